/- Proved: behind every change of a script a rope holds no fewer pieces than runs and no more than those and a sixteenth of the cells, and its levels are within their bounds; for all inputs. -/
import Derived.Deep.LoopGhost
import Derived.Shelf.Strings.Builder1
import Derived.Shelf.Strings.BuilderF
import Derived.Shelf.Strings.BuilderK
import Derived.Shelf.Strings.BuilderRune
import Derived.Test.YteeigokkafcaaaaDoorProg
import Derived.Test.YteeigokkafcaaaaDoorClaimKept1
section
namespace Go.Proofs.YteeigokkafcaaaaDoorRope
open Go.RowKit Go.Proofs.YteeigokkafcaaaaDoorW.PrintWords Go.Proofs.YteeigokkafcaaaaDoorW.PrintMore Go.Proofs.YteeigokkafcaaaaDoor.Pr
set_option linter.unusedSimpArgs false
set_option linter.unusedVariables false
def OkPc (x : S113) : Prop := x.f0 ≠ [] ∧ 0 ≤ x.f1 ∧ x.f1 ≤ 1048577
theorem rune_blk {W : World} {ok : Nat → Prop} {A : Option Addr} {l : List Int} (h : Kd.F (Kd.int .i32) W ok A l.length l) (hne : l ≠ []) : ∀ ad, A = some ad → ok ad.block := by
  intro ad e
  have hp : 0 < l.length := List.length_pos_iff.2 hne
  obtain ⟨ad', _, he, _, _, _, hk⟩ := Kd.F_get h 0 0 (by omega) (by omega)
  rw [e] at he
  injection he with he
  rw [he]
  exact hk (by decide)
theorem pcs_of_F {W : World} {ok : Nat → Prop} {g o : Nat} {r : List S113} (h : Kd.F k113 W ok (some ⟨g, o, none⟩) r.length r) (hne : ∀ x ∈ r, OkPc x) :
    ∃ qs : List Pc, qs.map (fun q => (⟨q.rs, q.hid⟩ : S113)) = r ∧ PcsAt W (some ⟨g, o, none⟩) qs ∧ ∀ q ∈ qs, PieceIn ok W q := by
  obtain ⟨qs, hl, hp⟩ := Go.Proofs.YteeigokkafcaaaaDoorR.list_of (p := fun i (q : Pc) => ∃ hi : i < r.length, (⟨q.rs, q.hid⟩ : S113) = r[i] ∧ PieceIn ok W q ∧ W.cell? ⟨g, o + i * 2, none⟩ = some (.slice q.A q.rs.length q.c) ∧ W.cell? ⟨g, o + i * 2 + 1, none⟩ = some (.int .i64 q.hid)) r.length (fun i hi => by
    obtain ⟨ad, c, he, hcl, hK, hcc, _⟩ := Kd.F_get h z113 (i : Int) (by omega) (by omega)
    injection he with he
    subst he
    have hx : r.getD (i : Int).toNat z113 = r[i] := by simp [hi]
    rw [hx] at hK
    obtain ⟨A0, c0, rfl, hc0, hF⟩ := k113_openF hK
    have hok := hne _ (List.getElem_mem hi)
    have had : ∀ j, (⟨g, o, none⟩ : Addr).add j = ⟨g, o + j, none⟩ := fun j => by unfold Addr.add; by_cases hz : j = 0 <;> simp [hz]
    refine ⟨⟨r[i].f0, r[i].f1, A0, c0⟩, hi, rfl, ⟨Kd.F_now hF, rune_blk hF hok.1, hc0, hok.1, hok.2⟩, ?_, ?_⟩
    · have := hcc 0 _ rfl
      rw [had, show k113.sz = 2 from rfl] at this
      simpa using this
    · have := hcc 1 _ rfl
      rw [had, show k113.sz = 2 from rfl] at this
      simpa [Nat.add_assoc] using this)
  refine ⟨qs, ?_, ?_, ?_⟩
  · apply List.ext_getElem (by simp [hl])
    intro i h1 h2
    rw [List.getElem_map]
    obtain ⟨_, e, _⟩ := hp i _ (List.getElem?_eq_getElem (by simpa using h1))
    exact e
  · intro i hi
    obtain ⟨_, _, _, h1, h2⟩ := hp i _ (List.getElem?_eq_getElem hi)
    exact ⟨g, o, rfl, h1, h2⟩
  · intro q hq
    obtain ⟨i, hi⟩ := List.getElem?_of_mem hq
    exact (hp i q hi).choose_spec.2.1
theorem pcells_scells {qs : List Pc} : pcells qs = scells (qs.map (fun q => (⟨q.rs, q.hid⟩ : S113))) := by
  simp only [pcells, scells, List.flatMap_map]
  rfl
theorem pcs_of_N {W : World} {base : Nat} {ok : Nat → Prop} {v : Value} {r : List S113} (h : Kd.N k113 113 W base ok v r) (hne : ∀ x ∈ r, OkPc x) :
    ∃ A c qs, v = .slice A qs.length c ∧ qs.length ≤ c ∧ qs.map (fun q => (⟨q.rs, q.hid⟩ : S113)) = r ∧ PcsAt W A qs ∧ ∀ q ∈ qs, PieceIn ok W q := by
  by_cases hz : r = []
  · subst hz
    obtain ⟨A, c, rfl, hc, _⟩ := Kd.N_reads h
    exact ⟨A, c, [], rfl, hc, rfl, fun i hi => absurd hi (by simp), by simp⟩
  · obtain ⟨g, cap, rfl, _⟩ := Kd.N_form h (List.length_pos_iff.2 hz)
    obtain ⟨_, hc, _⟩ := Kd.N_reads' h
    obtain ⟨qs, h1, h2, h3⟩ := pcs_of_F (Kd.N_F h) hne
    have hl : qs.length = r.length := by rw [← h1, List.length_map]
    exact ⟨_, cap, qs, by rw [hl], by rw [hl]; exact hc, h1, h2, h3⟩
structure RopeAt (K : Nat → Prop) (W : World) (b : Nat) (t : Tree) : Prop where
  h : ∃ v, W.heap[b]? = some (.cells #[v] 108 (0, 0)) ∧ TreeIn K W t v
  no : ¬ K b
def sRuns (l : List (List Int × Int)) : List S58 := l.map fun x => ⟨txt x.1, x.2⟩
structure GoodRuns (l : List (List Int × Int)) : Prop where
  one : ∀ x ∈ l, x.1 ≠ [] ∧ Lets x.1 ∧ 0 ≤ x.2 ∧ x.2 ≤ 1048576
  two : ∀ i (h : i + 1 < l.length), l[i + 1].2 ≠ l[i].2
def rcells (l : List (List Int × Int)) : List (Int × Int) := l.flatMap fun x => x.1.map fun c => (c, x.2)
def cutS (l : List Int) (h : Int) : List S113 := (List.range' 0 ((l.length + 63) / 64)).map (cutP l h ((l.length + 63) / 64))
theorem cutUp_is (l : List Int) (h : Int) (hL : l.length ≤ 1073741824) : ∃ k, rope_cutUp.f k l h = some (cutS l h) := by
  unfold cutS
  obtain ⟨n, hn⟩ : ∃ n, n = (l.length + 63) / 64 := ⟨_, rfl⟩
  have e : wrap64 (Int.tdiv (wrap64 ((wrap64 ((l.length : Int) + 64)) - 1)) 64) = (n : Int) := by
    have e1 : wrap64 ((l.length : Int) + 64) = ((l.length + 64 : Nat) : Int) := by rw [show ((l.length : Int) + 64) = ((l.length + 64 : Nat) : Int) by omega]; exact w64 (by omega) (by omega)
    have e2 : wrap64 (((l.length + 64 : Nat) : Int) - 1) = ((l.length + 63 : Nat) : Int) := by rw [show (((l.length + 64 : Nat) : Int) - 1) = ((l.length + 63 : Nat) : Int) by omega]; exact w64 (by omega) (by omega)
    rw [e1, e2, show (64 : Int) = ((64 : Nat) : Int) from rfl, tdiv_nat, ← hn]
    exact w64 (by omega) (by omega)
  rw [← hn]
  by_cases h0 : n = 0
  · subst h0
    refine ⟨1, ?_⟩
    unfold rope_cutUp.f
    rw [e]
    rfl
  · refine ⟨n + 1, ?_⟩
    unfold rope_cutUp.f
    rw [e]
    have := cut_l0 (l := l) (h := h) (Nat.pos_of_ne_zero h0) hL (by omega) n 0 [] (by omega) (by simp; omega)
    simpa using this
theorem cutS_law (l : List Int) (h : Int) (hL : l.length ≤ 1073741824) : scells (cutS l h) = l.map (fun c => (c, h)) ∧ (∀ x ∈ cutS l h, x.f0 ≠ [] ∧ x.f0.length ≤ 64 ∧ x.f1 = h) ∧ (cutS l h).length ≤ l.length := by
  obtain ⟨k1, h1⟩ := cutUp_is l h hL
  obtain ⟨k2, r, h2, h3, h4, h5⟩ := cutUp_law l h hL
  have e1 := at_rounds (fun k => rope_cutUp.mono l h k) (Nat.le_max_left k1 k2) h1
  have e2 := at_rounds (fun k => rope_cutUp.mono l h k) (Nat.le_max_right k1 k2) h2
  rw [e1] at e2
  injection e2 with e2
  rw [e2]
  exact ⟨h3, h4, h5⟩
theorem scells_append (a b : List S113) : scells (a ++ b) = scells a ++ scells b := by simp [scells]
theorem runesOf_sl (l : List Int) (hl : ∀ r ∈ l, Rn r) (hn : l.length ≤ 1073741824) (w : World) :
    Calls Tryd.prog 56 #[.string (txt l)] w fun e w' => ∃ A c, e = .returned (.slice A l.length c) ∧ Kd.V (Kd.int .i32) 21 w' w'.heap.size (fun k => w.heap.size < k) (.slice A l.length c) l ∧ Below w.heap.size w w' :=
  (runesOf_calls l hl hn w).mono fun e w' ⟨v, he, hR, hb⟩ => by
    obtain ⟨A, c, rfl⟩ := Kd.R_slice hR
    exact ⟨A, c, he, Kd.R_V hR, hb⟩
theorem cutUp_sl {P0 : Nat → Prop} {A : Option Addr} {c : Nat} {l : List Int} {h : Int} {w : World} (hs : Kd.V (Kd.int .i32) 21 w w.heap.size P0 (.slice A l.length c) l) (hL : l.length ≤ 1073741824) :
    Calls Tryd.prog 55 #[.slice A l.length c, .int .i64 h] w fun e w' => ∃ A' c', e = .returned (.slice A' (cutS l h).length c') ∧ Kd.F k113 w' (fun k => P0 k ∨ w.heap.size ≤ k) A' (cutS l h).length (cutS l h) ∧ (cutS l h).length ≤ c' ∧ Below w.heap.size w w' := by
  obtain ⟨k, hk⟩ := cutUp_is l h hL
  refine (rope_cutUp.calls k P0 A c l h (cutS l h) w hs hk).mono ?_
  rintro e w' ⟨v, he, hN, hb⟩
  obtain ⟨A', c', rfl⟩ := Kd.N_slice hN
  exact ⟨A', c', he, Kd.N_F hN, (Kd.N_reads' hN).2.1, hb⟩
def cutAll (l : List (List Int × Int)) : List S113 := l.flatMap fun x => cutS x.1 x.2
theorem cutAll_take {l : List (List Int × Int)} {k : Nat} (hk : k < l.length) : cutAll (l.take (k + 1)) = cutAll (l.take k) ++ cutS l[k].1 l[k].2 := by
  rw [List.take_succ_eq_append_getElem hk, cutAll, List.flatMap_append]
  simp [cutAll]
theorem cutAll_len : ∀ (l : List (List Int × Int)), (∀ x ∈ l, x.1.length ≤ 1073741824) → (cutAll l).length ≤ (rcells l).length
  | [], _ => Nat.le_refl _
  | x :: l, h => by
    have := cutAll_len l (fun y hy => h y (List.mem_cons_of_mem _ hy))
    have h2 := (cutS_law x.1 x.2 (h x List.mem_cons_self)).2.2
    simp only [cutAll, rcells, List.flatMap_cons, List.length_append, List.length_map] at *
    omega
theorem cutAll_cells : ∀ (l : List (List Int × Int)), (∀ x ∈ l, x.1.length ≤ 1073741824) → scells (cutAll l) = rcells l
  | [], _ => rfl
  | x :: l, h => by
    have := cutAll_cells l (fun y hy => h y (List.mem_cons_of_mem _ hy))
    have h2 := (cutS_law x.1 x.2 (h x List.mem_cons_self)).1
    simp only [cutAll, rcells, List.flatMap_cons, scells_append] at *
    rw [this, h2]
end Go.Proofs.YteeigokkafcaaaaDoorRope
end
section
namespace Go.Proofs.YteeigokkafcaaaaDoorRope
open Go.RowKit Go.Proofs.YteeigokkafcaaaaDoorW.PrintWords Go.Proofs.YteeigokkafcaaaaDoorW.PrintMore Go.Proofs.YteeigokkafcaaaaDoor.Pr
set_option linter.unusedSimpArgs false
set_option linter.unusedVariables false
attribute [local go_sem ↓] Go.wp_at_zero Go.wp_at_succ
def evGo (run : List Int) (h : Int) : List S113 → List S113
  | [] => cutS run h
  | x :: t => if x.f1 = h then evGo (run ++ x.f0) h t else cutS run h ++ evGo x.f0 x.f1 t
def ev : List S113 → List S113
  | [] => []
  | x :: t => evGo x.f0 x.f1 t
theorem evGo_start {ps : List S113} {i : Nat} (hi : i < ps.length) : evGo [] ps[i].f1 (ps.drop i) = ev (ps.drop i) := by
  rw [List.drop_eq_getElem_cons hi, evGo, if_pos rfl, List.nil_append, ev]
theorem evGo_more {ps : List S113} {k : Nat} (hk : k < ps.length) {run : List Int} {h : Int} (e : ps[k].f1 = h) : evGo run h (ps.drop k) = evGo (run ++ ps[k].f0) h (ps.drop (k + 1)) := by
  conv => lhs; rw [List.drop_eq_getElem_cons hk]
  rw [evGo, if_pos e]
theorem evGo_stop {ps : List S113} {k : Nat} {run : List Int} {h : Int} (e : ∀ hk : k < ps.length, ps[k].f1 ≠ h) : evGo run h (ps.drop k) = cutS run h ++ ev (ps.drop k) := by
  by_cases hk : k < ps.length
  · conv => lhs; rw [List.drop_eq_getElem_cons hk]
    conv => rhs; rw [List.drop_eq_getElem_cons hk]
    rw [evGo, if_neg (e hk), ev]
  · rw [List.drop_eq_nil_of_le (by omega), evGo, ev, List.append_nil]
theorem pc_cell {W : World} {A : Option Addr} {ps : List S113} (h : Kd.C k113 W A ps.length ps) {k : Nat} (hk : k < ps.length) : ∃ ad A0 c0, A = some ad ∧ W.cell? (ad.add (k * 2)) = some (.slice A0 ps[k].f0.length c0) ∧ W.cell? ⟨(ad.add (k * 2)).block, (ad.add (k * 2)).off + 1, none⟩ = some (.int .i64 ps[k].f1) ∧ ps[k].f0.length ≤ c0 ∧ (Kd.int .i32).C W A0 ps[k].f0.length ps[k].f0 := by
  obtain ⟨ad, A0, c0, e, h1, h2, h3, h4⟩ := at_T113 h (k : Int) (by omega) (by omega)
  have hx : rd_T113 ps (k : Int) = ps[k] := by simp [rd_T113, hk]
  rw [hx] at h1 h2 h3 h4
  exact ⟨ad, A0, c0, e, by simpa using h1, by simpa using h2, h3, h4⟩
theorem scells_take {ps : List S113} {k : Nat} (hk : k < ps.length) : (scells (ps.take (k + 1))).length = (scells (ps.take k)).length + ps[k].f0.length := by
  rw [List.take_succ_eq_append_getElem hk, scells_append, List.length_append]
  simp [scells]
theorem scells_le {ps : List S113} (k : Nat) : (scells (ps.take k)).length ≤ (scells ps).length := by
  have := congrArg (fun x => (scells x).length) (List.take_append_drop k ps)
  simp only [scells_append, List.length_append] at this
  omega
def EvO (w : World) (ps : List S113) (v3 v4 : Value) (wr : World) : Prop :=
  ∃ (i : Nat) (o : List S113), v4 = .int .i64 (i : Int) ∧ i ≤ ps.length ∧ o ++ ev (ps.drop i) = ev ps ∧ o.length ≤ (scells (ps.take i)).length ∧ Kd.N k113 113 wr w.heap.size (fun b => w.heap.size ≤ b) v3 o ∧ Below w.heap.size w wr
def EvI (w wo : World) (ps o : List S113) (h : Int) (i : Nat) (v3 v5 v6 : Value) (wx : World) : Prop :=
  ∃ (k : Nat) (run : List Int), v6 = .int .i64 (k : Int) ∧ i ≤ k ∧ k ≤ ps.length ∧ o ++ evGo run h (ps.drop k) = ev ps ∧ (scells (ps.take i)).length + run.length = (scells (ps.take k)).length ∧ Kd.R (Kd.int .i32) 21 wx w.heap.size (fun b => wo.heap.size ≤ b) v5 run ∧ Kd.N k113 113 wx w.heap.size (fun b => w.heap.size ≤ b ∧ b < wo.heap.size) v3 o ∧ Below w.heap.size w wx ∧ wo.heap.size ≤ wx.heap.size
theorem info21' : (Tryd.prog.info? 21).map (fun i => (i.zero, i.size, i.bytes)) = some (some (.int .i32 0), 1, 4) := by kernel_rfl
set_option maxRecDepth 100000 in
set_option maxHeartbeats 16000000 in
theorem evened_calls {ps : List S113} (hlen : (scells ps).length ≤ 1073741824) (hpl : ps.length ≤ 1073741824) {w : World} {A : Option Addr} {c : Nat} (hA : Kd.C k113 w A ps.length ps) (hc : ps.length ≤ c) :
    Calls Tryd.prog 105 #[.slice A ps.length c] w fun e w' => ∃ v, e = .returned v ∧ Kd.N k113 113 w' w.heap.size (fun b => w.heap.size ≤ b) v (ev ps) ∧ Below w.heap.size w w' := by
  have HLEN := Lib.hid hlen
  clear hlen
  go_enter Tryd.func105, Tryd.ntmps105
  go_wp2
  go_loopg [3, 4] ps.length (fun gk v3 v4 wr => EvO w ps v3 v4 wr ∧ ps.length - (intOf v4).toNat ≤ gk)
  case atStart => exact ⟨⟨0, [], rfl, Nat.zero_le _, rfl, Nat.zero_le _, Kd.N_nil _ _ _ _ _, Below.refl _ _⟩, by simp [intOf]⟩
  case round =>
    obtain ⟨⟨i, o, rfl, hi, hg, hol, hN, hB⟩, hgk⟩ := hrel
    obtain ⟨gkO, hgO⟩ : ∃ gkO, gkO = gk := ⟨_, rfl⟩
    subst hgO
    obtain ⟨wo, hwo⟩ : ∃ wo : World, wo = wr := ⟨_, rfl⟩
    subst hwo
    have hgk2 : ps.length - i ≤ gkO := by simpa [intOf] using hgk
    clear hgk
    by_cases hlt : i < ps.length
    · obtain ⟨ad, A0, c0, hAd, x0, x1, x2, x3⟩ := pc_cell hA hlt
      subst hAd
      have hs := evGo_start hlt
      rw [← hs] at hg
      have hsl := scells_take hlt
      obtain ⟨h, hh⟩ : ∃ h, h = ps[i].f1 := ⟨_, rfl⟩
      rw [← hh] at hg x1
      have ib : (i : Int) ≤ 1073741824 := by omega
      have hI : EvI w wo ps o h i _ (.slice none 0 0) (.int .i64 (i : Int)) wo := ⟨i, [], rfl, Nat.le_refl _, Nat.le_of_lt hlt, hg, rfl, Kd.R_nil _ _ _ _ _, Kd.N_bound hN, hB, Nat.le_refl _⟩
      have HOL := Lib.hid hol
      have HH := Lib.hid hh
      clear hs hg x0 x2 x3 hN hol hh hsl
      go_wp2
      go_loopg [5, 6] ps.length (fun gk2 v5 v6 wx => EvI w wo ps o h i _ v5 v6 wx ∧ ps.length - (intOf v6).toNat ≤ gk2)
      case atStart => exact ⟨hI, by simp [intOf]⟩
      case round =>
        clear hI
        obtain ⟨⟨k, run, rfl, hik, hk, hg, hrl, hR, hN, hBx, hws⟩, hgk3⟩ := hrel
        have hgk4 : ps.length - k ≤ gk := by simpa [intOf] using hgk3
        clear hgk3
        obtain ⟨A5, c5, hv5⟩ := Kd.R_slice hR
        subst hv5
        have hrun : run.length ≤ 1073741824 := by have h1 := scells_le (ps := ps) k; have := HLEN.out; omega
        have hown : ∀ b, wo.heap.size ≤ b → some b ≠ (u3 : Value).ownBlock := fun b hb e => by have := (hN.1 b e.symm).2; omega
        have y1 := pw_cell_below hBx x1
        have kb : (k : Int) ≤ 1073741824 := by omega
        by_cases hkl : k < ps.length
        · obtain ⟨ad', A1, c1, hAd', z0, z1, z2, z3⟩ := pc_cell hA hkl
          injection hAd' with hAd'
          subst hAd'
          have u0 := pw_cell_below hBx z0
          have u1 := pw_cell_below hBx z1
          have u3 := Kd.C_below z3 hBx
          have hst := scells_take hkl
          have hsle := scells_le (ps := ps) (k + 1)
          have t1 : decide (k < ps.length) = true := decide_eq_true hkl
          by_cases he : ps[k].f1 = h
          · have t2 : (ps[k].f1 == h) = true := beq_iff_eq.mpr he
            rw [evGo_more hkl he] at hg
            obtain ⟨rs, hrs⟩ : ∃ rs, rs = ps[k].f0 := ⟨_, rfl⟩
            rw [← hrs] at hg u0 u3 hst z2
            obtain ⟨q, hq⟩ : ∃ q, q = ps[k].f1 := ⟨_, rfl⟩
            rw [← hq] at u1 t2
            have HG := Lib.hid hg
            have HRL : Hid ((scells (ps.take i)).length + (run ++ rs).length = (scells (ps.take (k + 1))).length) := Lib.hid (by rw [List.length_append, hst]; omega)
            have HL : Hid ((run.length + rs.length) * 4 ≤ 140737488355328) := Lib.hid (by have := HLEN.out; omega)
            clear hg z0 z1 z3 hst hsle hrl hrs he hq
            go_wp2
            go_quiet (fail)
            have hRq := Kd.R_drewN hR nq
            have hNq := Kd.N_drewN hN nq
            have hBq := pw_below_drewN hBx nq
            have uq := Kd.C_drewN u3 nq
            go_wp2_with ((with_reducible refine gate_builtin (b := .append) (xs := #[.tmp 29, .tmp 34]) rfl ?_); at_builtin; refine Kd.R_append_rows (Kd.int .i32) (w0 := w) w.heap.size rfl (.tmp 29) (.tmp 34) 103 21 (.int .i32 0) 4 rfl Tryd.underlying103 info21' rfl (by decide) (by decide) _ run rs A1 rs.length c1 (fun b => wo.heap.size ≤ b) (fun _ => False) rfl rfl hRq uq (fun _ _ h => h) (fun _ h => h.elim) ?aF hBq hBq.size HL.out ?_; (case aF => exact fun b hb => Nat.le_trans hws hb); intro v5 w5 hR5 hB5 hg5 hat5)
            have hws5 : wo.heap.size ≤ w5.heap.size := Nat.le_trans hws hg5.size
            have hN5 := Kd.N_grown hNq hg5 (fun b hb e => by have := hRq.1 b e.symm; have := hb.2; omega)
            obtain ⟨g, rfl⟩ : ∃ g, gk = g + 1 := ⟨gk - 1, by omega⟩
            clear hRq hNq hBq uq u0 u1 u3 hR hN hBx y1 hg5 hat5
            go_wp2
            go_roundg g
            case measure => omega
            case rel => exact ⟨⟨k + 1, run ++ rs, by go_num, by omega, hkl, HG.out, HRL.out, hR5, hN5, hB5, hws5⟩, by simp [intOf]; omega⟩
          · have t2 : (ps[k].f1 == h) = false := beq_eq_false_iff_ne.mpr he
            rw [evGo_stop (fun _ => he)] at hg
            have hcl := (cutS_law run h hrun).2.2
            have hol2 : (o ++ cutS run h).length ≤ (scells (ps.take k)).length := by rw [List.length_append]; have := HOL.out; omega
            have hki : i < k := by
              rcases Nat.lt_or_ge i k with h1 | h1
              · exact h1
              · exfalso
                exact he (by rw [HH.out]; simp only [show k = i by omega])
            have HL : Hid ((o.length + (cutS run h).length) * 32 ≤ 140737488355328) := Lib.hid (by rw [← List.length_append]; have h1 := scells_le (ps := ps) k; have := HLEN.out; omega)
            have HG : Hid ((o ++ cutS run h) ++ ev (ps.drop k) = ev ps) := Lib.hid (by rw [List.append_assoc]; exact hg)
            have HOL2 := Lib.hid hol2
            obtain ⟨g, rfl⟩ : ∃ g, gkO = g + 1 := ⟨gkO - 1, by omega⟩
            clear hg hcl hol2 hrl HOL HH
            clear z0 z3 u0 u3
            go_wp2
            go_quiet (fail)
            have hRq := Kd.R_drewN hR nq
            have hNq := Kd.N_drewN hN nq
            have hBq := pw_below_drewN hBx nq
            have y2 := y1
            clear hR hN hBx
            go_wp2_with (first
              | (go_at_call 55; refine (cutUp_sl (Kd.R_V hRq) hrun).mono ?_; rintro e w7 ⟨A7, c7, rfl, hF7, hc7, hb7⟩)
              | ((with_reducible refine gate_builtin (b := .append) (xs := #[.tmp 38, .tmp 45]) rfl ?_); at_builtin; refine Kd.N_append_rows k113 (w0 := w) w.heap.size rfl (.tmp 38) (.tmp 45) 101 113 (.agg #[.slice none 0 0, .int .i64 0]) 32 rfl Tryd.underlying101 info113 rfl (by decide) (by decide) _ o _ A7 _ c7 (fun b => w.heap.size ≤ b) _ rfl rfl (Kd.N_mono (Kd.N_below hNq hb7) (fun b hb => hb.1)) hF7 ?aK ?aF (hBq.trans (hb7.mono hBq.size)) (hBq.trans (hb7.mono hBq.size)).size HL.out ?_; (case aK => exact fun b hb => ⟨by have := hB.size; have : wo.heap.size ≤ (wr.drewN nq).heap.size := hws; omega, hown b (by have : wo.heap.size ≤ (wr.drewN nq).heap.size := hws; omega)⟩); (case aF => exact fun b hb => Nat.le_trans (hBq.trans (hb7.mono hBq.size)).size hb); intro v8 w8 hN8 hB8 hg8 hat8))
            clear hRq hNq hBq hF7 hg8 hat8
            go_wp2
            go_roundg g
            case measure => omega
            case rel => exact ⟨⟨k, o ++ cutS run h, rfl, hk, HG.out, HOL2.out, hN8, hB8⟩, by simp [intOf]; omega⟩
        · have t1 : decide (k < ps.length) = false := decide_eq_false hkl
          rw [evGo_stop (fun hk' => absurd hk' hkl)] at hg
          have hcl := (cutS_law run h hrun).2.2
          have hol2 : (o ++ cutS run h).length ≤ (scells (ps.take k)).length := by rw [List.length_append]; have := HOL.out; omega
          have hki : i < k := by
            rcases Nat.lt_or_ge i k with h1 | h1
            · exact h1
            · exfalso
              omega
          have HL : Hid ((o.length + (cutS run h).length) * 32 ≤ 140737488355328) := Lib.hid (by rw [← List.length_append]; have h1 := scells_le (ps := ps) k; have := HLEN.out; omega)
          have HG : Hid ((o ++ cutS run h) ++ ev (ps.drop k) = ev ps) := Lib.hid (by rw [List.append_assoc]; exact hg)
          have HOL2 := Lib.hid hol2
          obtain ⟨g, rfl⟩ : ∃ g, gkO = g + 1 := ⟨gkO - 1, by omega⟩
          clear hg hcl hol2 hrl HOL HH
          go_wp2
          go_quiet (fail)
          have hRq := Kd.R_drewN hR nq
          have hNq := Kd.N_drewN hN nq
          have hBq := pw_below_drewN hBx nq
          have y2 := y1
          clear hR hN hBx
          go_wp2_with (first
            | (go_at_call 55; refine (cutUp_sl (Kd.R_V hRq) hrun).mono ?_; rintro e w7 ⟨A7, c7, rfl, hF7, hc7, hb7⟩)
            | ((with_reducible refine gate_builtin (b := .append) (xs := #[.tmp 38, .tmp 45]) rfl ?_); at_builtin; refine Kd.N_append_rows k113 (w0 := w) w.heap.size rfl (.tmp 38) (.tmp 45) 101 113 (.agg #[.slice none 0 0, .int .i64 0]) 32 rfl Tryd.underlying101 info113 rfl (by decide) (by decide) _ o _ A7 _ c7 (fun b => w.heap.size ≤ b) _ rfl rfl (Kd.N_mono (Kd.N_below hNq hb7) (fun b hb => hb.1)) hF7 ?aK ?aF (hBq.trans (hb7.mono hBq.size)) (hBq.trans (hb7.mono hBq.size)).size HL.out ?_; (case aK => exact fun b hb => ⟨by have := hB.size; have : wo.heap.size ≤ (wr.drewN nq).heap.size := hws; omega, hown b (by have : wo.heap.size ≤ (wr.drewN nq).heap.size := hws; omega)⟩); (case aF => exact fun b hb => Nat.le_trans (hBq.trans (hb7.mono hBq.size)).size hb); intro v8 w8 hN8 hB8 hg8 hat8))
          clear hRq hNq hBq hF7 hg8 hat8
          go_wp2
          go_roundg g
          case measure => omega
          case rel => exact ⟨⟨k, o ++ cutS run h, rfl, hk, HG.out, HOL2.out, hN8, hB8⟩, by simp [intOf]; omega⟩
    · have hin : i = ps.length := by omega
      subst hin
      rw [List.drop_length, ev, List.append_nil] at hg
      subst hg
      clear hlt hi hgk2 hol
      go_wp2
      go_ret
      exact ⟨_, rfl, hN, hB⟩
end Go.Proofs.YteeigokkafcaaaaDoorRope
end
section
namespace Go.Proofs.YteeigokkafcaaaaDoorRope
open Go.RowKit Go.Proofs.YteeigokkafcaaaaDoorW.PrintWords Go.Proofs.YteeigokkafcaaaaDoorW.PrintMore Go.Proofs.YteeigokkafcaaaaDoor.Pr
set_option linter.unusedSimpArgs false
set_option linter.unusedVariables false
theorem scells_cons (x : S113) (t : List S113) : scells (x :: t) = x.f0.map (fun c => (c, x.f1)) ++ scells t := by simp [scells]
theorem evGo_cells : ∀ (t : List S113) (run : List Int) (h : Int), run.length + (scells t).length ≤ 1073741824 → scells (evGo run h t) = run.map (fun c => (c, h)) ++ scells t
  | [], run, h, hb => by
    rw [evGo, (cutS_law run h (by omega)).1]
    simp [scells]
  | x :: t, run, h, hb => by
    rw [scells_cons, List.length_append, List.length_map] at hb
    rw [evGo]
    by_cases c : x.f1 = h
    · rw [if_pos c, evGo_cells t (run ++ x.f0) h (by rw [List.length_append]; omega), scells_cons, c, List.map_append, List.append_assoc]
    · rw [if_neg c, scells_append, (cutS_law run h (by omega)).1, evGo_cells t x.f0 x.f1 (by omega), scells_cons]
theorem ev_cells (ps : List S113) (hb : (scells ps).length ≤ 1073741824) : scells (ev ps) = scells ps := by
  cases ps with
  | nil => rfl
  | cons x t =>
    rw [scells_cons, List.length_append, List.length_map] at hb
    rw [ev, evGo_cells t x.f0 x.f1 hb, scells_cons]
theorem evGo_ok : ∀ (t : List S113) (run : List Int) (h : Int), run.length + (scells t).length ≤ 1073741824 → 0 ≤ h ∧ h ≤ 1048577 → (∀ x ∈ t, OkPc x) → ∀ x ∈ evGo run h t, OkPc x
  | [], run, h, hb, hh, ht, x, hx => by
    obtain ⟨h1, _, h2⟩ := (cutS_law run h (by omega)).2.1 x hx
    exact ⟨h1, by omega, by omega⟩
  | y :: t, run, h, hb, hh, ht, x, hx => by
    rw [scells_cons, List.length_append, List.length_map] at hb
    rw [evGo] at hx
    have hy := ht y List.mem_cons_self
    by_cases c : y.f1 = h
    · rw [if_pos c] at hx
      exact evGo_ok t _ h (by rw [List.length_append]; omega) hh (fun z hz => ht z (List.mem_cons_of_mem _ hz)) x hx
    · rw [if_neg c] at hx
      rcases List.mem_append.1 hx with hx | hx
      · obtain ⟨h1, _, h2⟩ := (cutS_law run h (by omega)).2.1 x hx
        exact ⟨h1, by omega, by omega⟩
      · exact evGo_ok t y.f0 y.f1 (by omega) ⟨hy.2.1, hy.2.2⟩ (fun z hz => ht z (List.mem_cons_of_mem _ hz)) x hx
theorem ev_ok {ps : List S113} (hb : (scells ps).length ≤ 1073741824) (ht : ∀ x ∈ ps, OkPc x) : ∀ x ∈ ev ps, OkPc x := by
  cases ps with
  | nil => intro x hx; cases hx
  | cons y t =>
    rw [scells_cons, List.length_append, List.length_map] at hb
    have hy := ht y List.mem_cons_self
    exact evGo_ok t y.f0 y.f1 hb ⟨hy.2.1, hy.2.2⟩ (fun z hz => ht z (List.mem_cons_of_mem _ hz))
theorem len_scells : ∀ {ps : List S113}, (∀ x ∈ ps, OkPc x) → ps.length ≤ (scells ps).length
  | [], _ => Nat.le_refl _
  | x :: t, h => by
    have := len_scells (fun y hy => h y (List.mem_cons_of_mem _ hy))
    have h1 := List.length_pos_iff.2 (h x List.mem_cons_self).1
    rw [scells_cons, List.length_append, List.length_map, List.length_cons]
    omega
abbrev Pc.s (p : Pc) : S113 := ⟨p.rs, p.hid⟩
theorem Pc.ok {K : Nat → Prop} {W : World} {p : Pc} (h : PieceIn K W p) : OkPc p.s := ⟨h.ne, h.h.1, h.h.2⟩
theorem scells_pc (p : Pc) : scells [p.s] = p.cells := by simp [scells, Pc.cells]
theorem FK_pc {K : Nat → Prop} {W : World} {p : Pc} (h : PieceIn K W p) : Kd.FK k113 W K p.s [.slice p.A p.rs.length p.c, .int .i64 p.hid] :=
  k113_mkF W K p.s h.cap (fun W' hW => h.ra.move (fun ad e hlt => hW _ (h.k ad e) hlt))
theorem N_one {W : World} {base : Nat} {p : S113} {a b : Value} {ok okp : Nat → Prop} (hp : Kd.FK k113 W okp p [a, b]) (hbase : base ≤ W.heap.size) (hok : ∀ k, okp k → ok k) (hfresh : ok W.heap.size) : Kd.N k113 113 (W.alloc (.cells #[a, b] 113)) base ok (.slice (some ⟨W.heap.size, 0, none⟩) 1 1) [p] := by
  have hone : ∀ u ∈ [a, b], u.oneCell' = true := k113.K_one (Kd.FK_now hp)
  have hr : Reps ((Kd.raw 2).M (W.alloc (.cells #[a, b] 113)) base (fun k => k = W.heap.size ∧ some k ≠ (Value.slice (some ⟨W.heap.size, 0, none⟩) 1 1).ownBlock)) 2 [[a, b]] [a, b] := by
    refine ⟨rfl, fun j x hj => ?_⟩
    rcases j with _ | j
    · have : x = [a, b] := by simpa using hj.symm
      subst this
      exact ⟨rfl, rfl, hone⟩
    · simp at hj
  have hR : (Kd.raw 2).R 113 (W.alloc (.cells #[a, b] 113)) base (fun k => k = W.heap.size) (.slice (some ⟨W.heap.size, 0, none⟩) 1 1) [[a, b]] :=
    ⟨fun k hk => by have : W.heap.size = k := by simpa [Value.ownBlock] using hk
                    exact this.symm, OwnRow.lit (e := 113) W base hr hbase (by simp)⟩
  refine Kd.N_made (d := k113) hR (World.grownBy_alloc W _ none) ⟨W.heap.size, by simp [Value.ownBlock], Nat.le_refl _⟩ rfl ?_ hok hfresh
  intro j x c hx hc
  rcases j with _ | j
  · have h1 : x = p := by simpa using hx.symm
    have h2 : c = [a, b] := by simpa using hc.symm
    rw [h1, h2]
    exact hp
  · simp at hx
def Kg (K : Nat → Prop) (n m : Nat) : Nat → Prop := fun k => (K k ∧ k < n) ∨ m ≤ k
theorem Env.grown {K : Nat → Prop} {w0 W W1 : World} {ts : List (Tree × Value)} {ps : List Pc} {bs : List (Nat × Obj)} {row : Option Nat} (h : Env K w0 W ts ps bs) (hg : W.grownBy W1 row) (hb : Below w0.heap.size w0 W1) (hrow : ∀ b, row = some b → ¬ K b ∧ ∀ x ∈ bs, x.1 ≠ b) : Env (Kg K W.heap.size W1.heap.size) w0 W1 ts ps bs := by
  have hm : ∀ k, K k ∧ k < W.heap.size → k < W.heap.size → W1.heap[k]? = W.heap[k]? := fun k hk hlt => hg.block k hlt (fun e => (hrow k e.symm).1 hk.1)
  refine ⟨fun x hx => ?_, fun x hx => ?_, fun x hx => ?_, hb, fun k hk => .inr hk⟩
  · have ht := (h.t x hx).bound
    exact ⟨(ht.rep.move hm).mono (fun k hk => .inl hk), ht.good⟩
  · have hp := (h.p x hx).bound
    exact ⟨hp.ra.move (fun ad e hlt => hm _ (hp.k ad e) hlt), fun ad e => .inl (hp.k ad e), hp.cap, hp.ne, hp.h⟩
  · have hlt := new_lt (h.b x hx)
    exact (hg.block x.1 hlt (fun e => (hrow x.1 e.symm).2 x hx rfl)).trans (h.b x hx)
theorem Kg.sub {K : Nat → Prop} {n m : Nat} (hu : ∀ k, n ≤ k → K k) (hnm : n ≤ m) : ∀ k, Kg K n m k → K k := fun k hk => hk.elim (fun h => h.1) (fun h => hu k (Nat.le_trans hnm h))
theorem Kg.own {K : Nat → Prop} {W W1 : World} {v v1 : Value} (hv : ∀ b, v.ownBlock = some b → ¬ K b) (hat : v1.ownBlock = v.ownBlock ∨ ∃ b, v1.ownBlock = some b ∧ W.heap.size ≤ b) (hlt : ∀ b, v1.ownBlock = some b → b < W1.heap.size) : ∀ b, v1.ownBlock = some b → ¬ Kg K W.heap.size W1.heap.size b := by
  intro b hb hk
  have h1 := hlt b hb
  rcases hk with hk | hk
  · rcases hat with hat | ⟨b', hb', hle⟩
    · exact hv b (by rw [← hat]; exact hb) hk.1
    · rw [hb'] at hb
      injection hb with hb
      omega
  · omega
theorem Env.mono {K K' : Nat → Prop} {w0 W : World} {ts : List (Tree × Value)} {ps : List Pc} {bs : List (Nat × Obj)} (h : Env K w0 W ts ps bs) (hK : ∀ k, K k → K' k) (hu : ∀ k, W.heap.size ≤ k → K' k) : Env K' w0 W ts ps bs :=
  ⟨fun x hx => (h.t x hx).mono hK, fun x hx => (h.p x hx).mono hK, h.b, h.bel, hu⟩
end Go.Proofs.YteeigokkafcaaaaDoorRope
end
section
namespace Go.Proofs.YteeigokkafcaaaaDoorRope
open Go.RowKit Go.Proofs.YteeigokkafcaaaaDoorW.PrintWords Go.Proofs.YteeigokkafcaaaaDoorW.PrintMore Go.Proofs.YteeigokkafcaaaaDoor.Pr
set_option linter.unusedSimpArgs false
set_option linter.unusedVariables false
attribute [local go_sem] run_field2 run_field0
theorem RopeAt.env {K : Nat → Prop} {w : World} {b : Nat} {t : Tree} (h : RopeAt K w b t) : ∃ v, w.cell? ⟨b, 0, none⟩ = some v ∧ Env (KU (fun k => K k ∧ k < w.heap.size) w.heap.size) w w [(t, v)] [] [] ∧ ∃ p, v = .pointer p := by
  obtain ⟨v, hv, ht⟩ := h.h
  refine ⟨v, by simp [World.cell?, hv], ⟨fun x hx => ?_, by simp, by simp, Below.refl _ _, fun k hk => .inr hk⟩, ht.rep.ptr⟩
  have : x = (t, v) := by simpa using hx
  rw [this]
  exact ht.bound.mono (fun k hk => .inl hk)
theorem RopeAt.below {K : Nat → Prop} {w w' : World} {b : Nat} {t : Tree} (h : RopeAt K w b t) (hb : Below w.heap.size w w') : RopeAt K w' b t := by
  obtain ⟨⟨v, hv, ht⟩, hn⟩ := h
  exact ⟨⟨v, (hb.block b (new_lt hv)).trans hv, ht.below hb⟩, hn⟩
set_option maxRecDepth 100000 in
set_option maxHeartbeats 4000000 in
theorem total_calls {K : Nat → Prop} {w : World} {b : Nat} {t : Tree} (h : RopeAt K w b t) : Calls Tryd.prog 19 #[.pointer (some ⟨b, 0, none⟩)] w fun e w' => e = .returned (.int .i64 (t.cells.length : Int)) ∧ Below w.heap.size w w' := by
  obtain ⟨v, hv, hE, p, rfl⟩ := h.env
  go_enter Tryd.func19, Tryd.ntmps19
  go_wp2_with (go_at_call 58; refine (all_len hE List.mem_cons_self).mono ?_; rintro e w1 ⟨x1, x2, x3, x4, x5, rfl, hE1⟩)
  go_ret
  exact ⟨rfl, hE1.bel⟩
end Go.Proofs.YteeigokkafcaaaaDoorRope
end
section
namespace Go.Proofs.YteeigokkafcaaaaDoorRope
open Go.RowKit Go.Proofs.YteeigokkafcaaaaDoorW.PrintWords Go.Proofs.YteeigokkafcaaaaDoorW.PrintMore Go.Proofs.YteeigokkafcaaaaDoor.Pr
set_option linter.unusedSimpArgs false
set_option linter.unusedVariables false
attribute [local go_sem] run_field2 run_field0
theorem len_cells (l : Tree) (rs : List Int) (hid : Int) (r : Tree) (plus : Int) : (Tree.node l rs hid r plus).cells.length = (l.lift plus).cells.length + rs.length + (r.lift plus).cells.length := by
  rw [len_open, len_lift, len_lift]
end Go.Proofs.YteeigokkafcaaaaDoorRope
end
section
namespace Go.Proofs.YteeigokkafcaaaaDoorRope
open Go.RowKit Go.Proofs.YteeigokkafcaaaaDoorW.PrintWords Go.Proofs.YteeigokkafcaaaaDoorW.PrintMore Go.Proofs.YteeigokkafcaaaaDoor.Pr
set_option linter.unusedSimpArgs false
set_option linter.unusedVariables false
attribute [local go_sem] run_field2 run_field0 max2_int min2_int
theorem Rep.some {K : Nat → Prop} {W : World} {l r : Tree} {rs : List Int} {hid plus : Int} {q : Option Addr} (h : Rep K W (.node l rs hid r plus) (.pointer q)) : ∃ ad, q = Option.some ad := by
  obtain ⟨a, vl, vr, A, c, e, _⟩ := h
  injection e with e
  exact ⟨_, e⟩
theorem Rep.none {K : Nat → Prop} {W : World} {q : Option Addr} (h : Rep K W .nil (.pointer q)) : q = Option.none := by
  have e : Value.pointer q = .pointer Option.none := h
  injection e
end Go.Proofs.YteeigokkafcaaaaDoorRope
end
section
namespace Go.Proofs.YteeigokkafcaaaaDoorRope
open Go.RowKit Go.Proofs.YteeigokkafcaaaaDoorW.PrintWords Go.Proofs.YteeigokkafcaaaaDoorW.PrintMore Go.Proofs.YteeigokkafcaaaaDoor.Pr
set_option linter.unusedSimpArgs false
set_option linter.unusedVariables false
theorem evened_pcs {sq : List S113} (hlen : (scells sq).length ≤ 1073741824) (hok : ∀ x ∈ sq, OkPc x) {w : World} {A : Option Addr} {c : Nat} (hA : Kd.C k113 w A sq.length sq) (hc : sq.length ≤ c) :
    Calls Tryd.prog 105 #[.slice A sq.length c] w fun e w' => ∃ A' c' qs, e = .returned (.slice A' qs.length c') ∧ pcells qs = scells sq ∧ qs.length ≤ (scells sq).length ∧ PcsAt w' A' qs ∧ (∀ q ∈ qs, PieceIn (fun b => w.heap.size ≤ b) w' q) ∧ Below w.heap.size w w' := by
  have hl := len_scells hok
  refine (evened_calls hlen (by omega) hA hc).mono ?_
  rintro e w' ⟨v, he, hN, hb⟩
  obtain ⟨A', c', qs, rfl, _, hqs, hP, hK⟩ := pcs_of_N hN (ev_ok hlen hok)
  have hcs : pcells qs = scells sq := by rw [pcells_scells, hqs, ev_cells sq hlen]
  refine ⟨A', c', qs, he, hcs, ?_, hP, hK, hb⟩
  have h1 := len_scells (ev_ok hlen hok)
  rw [ev_cells sq hlen, ← hqs, List.length_map] at h1
  exact h1
def Mended (K : Nat → Prop) (w0 : World) (ts : List (Tree × Value)) (ps : List Pc) (bs : List (Nat × Obj)) (cs : List (Int × Int)) (e : Ending) (w' : World) : Prop := ∃ t p, e = .returned (.pointer p) ∧ Env K w0 w' ((t, .pointer p) :: ts) ps bs ∧ t.cells = cs
structure Beside (K0 K : Nat → Prop) (w0 W wx : World) (ts : List (Tree × Value)) (ps : List Pc) (bs : List (Nat × Obj)) (A : Option Addr) (c : Nat) (sq : List S113) : Prop where
  sub : ∀ k, K k → K0 k
  env : Env K w0 wx ts ps bs
  row : Kd.N k113 113 wx W.heap.size (fun _ => True) (.slice A sq.length c) sq
  own : ∀ b, (Value.slice A sq.length c).ownBlock = some b → ¬ K b
  ok : ∀ x ∈ sq, OkPc x
  bel : Below W.heap.size W wx
  box : ∀ x ∈ bs, x.1 < W.heap.size
  ws : w0.heap.size ≤ W.heap.size
def MenL (K0 : Nat → Prop) (w0 W : World) (ts : List (Tree × Value)) (ps : List Pc) (bs : List (Nat × Obj)) (L : List (Int × Int)) (v0 v5 v14 : Value) (wx : World) : Prop :=
  ∃ (j : Nat) (K : Nat → Prop) (l : Tree) (sq : List S113) (q A : Option Addr) (c : Nat), v14 = .int .i64 (j : Int) ∧ j ≤ 2 ∧ v0 = .pointer q ∧ v5 = .slice A sq.length c ∧ Beside K0 K w0 W wx ((l, .pointer q) :: ts) ps bs A c sq ∧ l.cells ++ scells sq = L ∧ sq.length ≤ j
theorem MenL.mk {K0 K : Nat → Prop} {w0 W wx : World} {ts : List (Tree × Value)} {ps : List Pc} {bs : List (Nat × Obj)} {L : List (Int × Int)} {v0 v5 : Value} {x14 : Int} (j : Nat) (l : Tree) (sq : List S113) (h14 : x14 = (j : Int)) (hj : j ≤ 2) (hs : ∀ k, K k → K0 k) (hE : Env K w0 wx ((l, v0) :: ts) ps bs) (hN : Kd.N k113 113 wx W.heap.size (fun _ => True) v5 sq) (ho : ∀ b, v5.ownBlock = some b → ¬ K b) (hok : ∀ x ∈ sq, OkPc x) (hB : Below W.heap.size W wx) (hbs : ∀ x ∈ bs, x.1 < W.heap.size) (hws : w0.heap.size ≤ W.heap.size) (hc : l.cells ++ scells sq = L) (hl : sq.length ≤ j) : MenL K0 w0 W ts ps bs L v0 v5 (.int .i64 x14) wx := by
  obtain ⟨q, rfl⟩ := (hE.t _ List.mem_cons_self).rep.ptr
  obtain ⟨A, c, rfl⟩ := Kd.N_slice hN
  exact ⟨j, K, l, sq, q, A, c, by rw [h14], hj, rfl, rfl, ⟨hs, hE, hN, ho, hok, hB, hbs, hws⟩, hc, hl⟩
def MenR (K0 : Nat → Prop) (w0 W : World) (ts : List (Tree × Value)) (ps : List Pc) (bs : List (Nat × Obj)) (C : List (Int × Int)) (l : Tree) (vl v1 v5 v29 : Value) (wx : World) : Prop :=
  ∃ (j : Nat) (K : Nat → Prop) (r : Tree) (sq : List S113) (q A : Option Addr) (c : Nat), v29 = .int .i64 (j : Int) ∧ j ≤ 2 ∧ v1 = .pointer q ∧ v5 = .slice A sq.length c ∧ Beside K0 K w0 W wx ((r, .pointer q) :: (l, vl) :: ts) ps bs A c sq ∧ l.cells ++ scells sq ++ r.cells = C ∧ sq.length ≤ 2 + j
theorem MenR.mk {K0 K : Nat → Prop} {w0 W wx : World} {ts : List (Tree × Value)} {ps : List Pc} {bs : List (Nat × Obj)} {C : List (Int × Int)} {l : Tree} {vl v1 v5 : Value} {x29 : Int} (j : Nat) (r : Tree) (sq : List S113) (h14 : x29 = (j : Int)) (hj : j ≤ 2) (hs : ∀ k, K k → K0 k) (hE : Env K w0 wx ((r, v1) :: (l, vl) :: ts) ps bs) (hN : Kd.N k113 113 wx W.heap.size (fun _ => True) v5 sq) (ho : ∀ b, v5.ownBlock = some b → ¬ K b) (hok : ∀ x ∈ sq, OkPc x) (hB : Below W.heap.size W wx) (hbs : ∀ x ∈ bs, x.1 < W.heap.size) (hws : w0.heap.size ≤ W.heap.size) (hc : l.cells ++ scells sq ++ r.cells = C) (hl : sq.length ≤ 2 + j) : MenR K0 w0 W ts ps bs C l vl v1 v5 (.int .i64 x29) wx := by
  obtain ⟨q, rfl⟩ := (hE.t _ List.mem_cons_self).rep.ptr
  obtain ⟨A, c, rfl⟩ := Kd.N_slice hN
  exact ⟨j, K, r, sq, q, A, c, by rw [h14], hj, rfl, rfl, ⟨hs, hE, hN, ho, hok, hB, hbs, hws⟩, hc, hl⟩
def MenJ (K : Nat → Prop) (w0 w7 : World) (ts : List (Tree × Value)) (ps : List Pc) (bs : List (Nat × Obj)) (lc : List (Int × Int)) (qs : List Pc) (r : Tree) (vr v0 v47 : Value) (wx : World) : Prop :=
  ∃ (i : Nat) (l : Tree) (q : Option Addr), v47 = .int .i64 (i : Int) ∧ i ≤ qs.length ∧ v0 = .pointer q ∧ Env K w0 wx ((l, .pointer q) :: (r, vr) :: ts) (qs ++ ps) bs ∧ l.cells = lc ++ pcells (qs.take i) ∧ Below w7.heap.size w7 wx
theorem MenJ.mk {K : Nat → Prop} {w0 w7 wx : World} {ts : List (Tree × Value)} {ps : List Pc} {bs : List (Nat × Obj)} {lc : List (Int × Int)} {qs : List Pc} {r : Tree} {vr v0 : Value} {x : Int} (i : Nat) (l : Tree) (hx : x = (i : Int)) (hi : i ≤ qs.length) (hE : Env K w0 wx ((l, v0) :: (r, vr) :: ts) (qs ++ ps) bs) (hc : l.cells = lc ++ pcells (qs.take i)) (hB : Below w7.heap.size w7 wx) : MenJ K w0 w7 ts ps bs lc qs r vr v0 (.int .i64 x) wx := by
  obtain ⟨q, rfl⟩ := (hE.t _ List.mem_cons_self).rep.ptr
  exact ⟨i, l, q, by rw [hx], hi, rfl, hE, hc, hB⟩
section
variable {K0 K : Nat → Prop} {w0 W wx w1 w8 : World} {ts : List (Tree × Value)} {ps : List Pc} {bs : List (Nat × Obj)} {A : Option Addr} {c : Nat} {sq : List S113} {v8 : Value}
theorem pcells_take {qs : List Pc} {i : Nat} (hi : i < qs.length) : pcells (qs.take (i + 1)) = pcells (qs.take i) ++ qs[i].cells := by
  rw [List.take_succ_eq_append_getElem hi, pcells, List.flatMap_append]
  simp [pcells]
theorem menL_step {l t : Tree} {v : Value} {q : Option Addr} {p : Pc} {j : Nat} {L : List (Int × Int)} (hb : Beside K0 K w0 W wx ((l, .pointer q) :: ts) ps bs A c sq) (hL : l.cells ++ scells sq = L) (hl : sq.length ≤ j) (hj : j < 2)
    (hE1 : Env K w0 w1 ((t, v) :: (l, .pointer q) :: ts) (p :: ps) bs) (hb1 : Below wx.heap.size wx w1) (hc : t.cells ++ p.cells = l.cells)
    (hN8 : Kd.N k113 113 w8 W.heap.size (fun _ => True) v8 ([p.s] ++ sq)) (hB8 : Below W.heap.size W w8) (hg8 : ((w1.alloc p.obj).alloc p.obj).grownBy w8 (some (w1.heap.size + 1)))
    (hat8 : v8.ownBlock = some (w1.heap.size + 1) ∨ ∃ b, v8.ownBlock = some b ∧ ((w1.alloc p.obj).alloc p.obj).heap.size ≤ b) {x : Int} (hx : x = (j : Int) + 1) : MenL K0 w0 W ts ps bs L v v8 (.int .i64 x) w8 := by
  have z3 : ((w1.alloc p.obj).alloc p.obj).heap.size = w1.heap.size + 1 + 1 := by simp
  have hb3 : Below w1.heap.size w1 ((w1.alloc p.obj).alloc p.obj) := ((Below.refl _ w1).alloc (Nat.le_refl _) _).alloc (by simp) _
  have hE3 : Env (Kg K w1.heap.size ((w1.alloc p.obj).alloc p.obj).heap.size) w0 ((w1.alloc p.obj).alloc p.obj) ((t, v) :: (l, .pointer q) :: ts) (p :: ps) bs := hE1.grown (grown_of_below hb3 none) (hE1.bel.trans (hb3.mono hE1.bel.size)) (fun b e => by cases e)
  have hw0 := hE3.bel.size
  have hww : W.heap.size ≤ w1.heap.size := Nat.le_trans hb.bel.size hb1.size
  have hnk : ∀ b, some (w1.heap.size + 1) = some b → ¬ Kg K w1.heap.size ((w1.alloc p.obj).alloc p.obj).heap.size b := by
    intro b e hk
    injection e with e
    rcases hk with hk | hk
    · have := hk.2; omega
    · omega
  have hE8 := hE3.grown hg8 (hE3.bel.trans ⟨hg8.os, hg8.tape, hg8.output, hg8.size, fun k hk => hg8.block k (Nat.lt_of_lt_of_le hk hw0) (fun e => by injection e with e; have := hE1.bel.size; omega)⟩) (fun b e => ⟨hnk b e, fun x hx e2 => by injection e with e; have := hb.box x hx; omega⟩)
  refine MenL.mk (j + 1) t ([p.s] ++ sq) (by omega) hj (fun k hk => hb.sub k ?_) (hE8.sub (sub_keep fun y hy => u1 hy) (fun y hy => u1 hy) (fun y hy => hy)) hN8 ?_ ?_ hB8 hb.box hb.ws ?_ (by simp; omega)
  · exact Kg.sub hE1.up hb3.size k (Kg.sub hE3.up hg8.size k hk)
  · refine Kg.own (v := .slice (some ⟨w1.heap.size + 1, 0, none⟩) 1 1) (fun b e => hnk b (by simpa [Value.ownBlock] using e)) (by simpa [Value.ownBlock] using hat8) (Kd.N_lt hN8)
  · intro x hx
    rcases List.mem_append.1 hx with hx | hx
    · have : x = p.s := by simpa using hx
      rw [this]; exact Pc.ok (hE1.p _ List.mem_cons_self)
    · exact hb.ok x hx
  · rw [scells_append, scells_pc, ← List.append_assoc, hc, hL]
theorem menR_step {l r t : Tree} {vl v : Value} {q : Option Addr} {p : Pc} {j : Nat} {C : List (Int × Int)} (hb : Beside K0 K w0 W wx ((r, .pointer q) :: (l, vl) :: ts) ps bs A c sq) (hC : l.cells ++ scells sq ++ r.cells = C) (hl : sq.length ≤ 2 + j) (hj : j < 2)
    (hE1 : Env K w0 w1 ((t, v) :: (r, .pointer q) :: (l, vl) :: ts) (p :: ps) bs) (hc : p.cells ++ t.cells = r.cells)
    (hN8 : Kd.N k113 113 w8 W.heap.size (fun _ => True) v8 (sq ++ [p.s])) (hB8 : Below W.heap.size W w8) (hg8 : (w1.alloc p.obj).grownBy w8 (Value.slice A sq.length c).ownBlock)
    (hat8 : v8.ownBlock = (Value.slice A sq.length c).ownBlock ∨ ∃ b, v8.ownBlock = some b ∧ (w1.alloc p.obj).heap.size ≤ b) {x : Int} (hx : x = (j : Int) + 1) : MenR K0 w0 W ts ps bs C l vl v v8 (.int .i64 x) w8 := by
  have hE3 := hE1.idle p.obj
  have hw0 := hE3.bel.size
  have hrow : ∀ b, (Value.slice A sq.length c).ownBlock = some b → W.heap.size ≤ b := fun b e => Kd.N_base hb.row b e
  have hw0W : w0.heap.size ≤ W.heap.size ∨ True := .inr trivial
  have hE8 := hE3.grown hg8 (hE3.bel.trans ⟨hg8.os, hg8.tape, hg8.output, hg8.size, fun k hk => hg8.block k (Nat.lt_of_lt_of_le hk hw0) (fun e => ?_)⟩) (fun b e => ⟨hb.own b e, fun x hx e2 => by have := hb.box x hx; have := hrow b e; omega⟩)
  · refine MenR.mk (j + 1) t (sq ++ [p.s]) (by omega) hj (fun k hk => hb.sub k ?_) (hE8.sub (sub_keep fun y hy => u1 hy) (fun y hy => u1 hy) (fun y hy => hy)) hN8 ?_ ?_ hB8 hb.box hb.ws ?_ (by simp; omega)
    · exact Kg.sub hE3.up hg8.size k hk
    · exact Kg.own hb.own hat8 (Kd.N_lt hN8)
    · intro x hx
      rcases List.mem_append.1 hx with hx | hx
      · exact hb.ok x hx
      · have : x = p.s := by simpa using hx
        rw [this]; exact Pc.ok (hE1.p _ List.mem_cons_self)
    · rw [scells_append, scells_pc, ← hC, ← hc]
      simp only [List.append_assoc]
  · have h1 := hrow k e.symm
    have h2 := hb.ws
    omega
end
end Go.Proofs.YteeigokkafcaaaaDoorRope
end
section
namespace Go.Proofs.YteeigokkafcaaaaDoorRope
open Go.RowKit Go.Proofs.YteeigokkafcaaaaDoorW.PrintWords Go.Proofs.YteeigokkafcaaaaDoorW.PrintMore Go.Proofs.YteeigokkafcaaaaDoor.Pr
set_option linter.unusedSimpArgs false
set_option linter.unusedVariables false
attribute [local go_sem] run_field2 run_field0
theorem Env.addPs {K : Nat → Prop} {w0 W : World} {ts : List (Tree × Value)} {ps qs : List Pc} {bs : List (Nat × Obj)} (h : Env K w0 W ts ps bs) (hq : ∀ q ∈ qs, PieceIn K W q) : Env K w0 W ts (qs ++ ps) bs := ⟨h.t, fun x hx => (List.mem_append.1 hx).elim (hq x) (h.p x), h.b, h.bel, h.up⟩
theorem Env.rebase {K : Nat → Prop} {w0 W : World} {ts : List (Tree × Value)} {ps : List Pc} {bs : List (Nat × Obj)} (h : Env K w0 W ts ps bs) : Env K W W ts ps bs := ⟨h.t, h.p, h.b, Below.refl _ _, h.up⟩
theorem Env.onto {K : Nat → Prop} {w0 W W' : World} {ts ts' : List (Tree × Value)} {ps ps' : List Pc} {bs bs' : List (Nat × Obj)} (h : Env K W W' ts ps bs) (h0 : Env K w0 W ts' ps' bs') : Env K w0 W' ts ps bs := ⟨h.t, h.p, h.b, h0.bel.trans (h.bel.mono h0.bel.size), h.up⟩
section
variable {K0 K : Nat → Prop} {w0 W wx w1 : World} {ts ts' : List (Tree × Value)} {ps : List Pc} {bs : List (Nat × Obj)} {A : Option Addr} {c : Nat} {sq : List S113}
theorem menL_app {p : Pc} (hb : Beside K0 K w0 W wx ts ps bs A c sq) (hE1 : Env K wx w1 ts' (p :: ps) bs) : Kd.N k113 113 ((w1.alloc p.obj).alloc p.obj) W.heap.size (fun _ => True) (.slice (some ⟨w1.heap.size + 1, 0, none⟩) 1 1) [p.s] ∧ Kd.F k113 ((w1.alloc p.obj).alloc p.obj) (fun k => k < w1.heap.size) A sq.length sq ∧ Below W.heap.size W ((w1.alloc p.obj).alloc p.obj) ∧ (∀ k, k < w1.heap.size → True ∧ some k ≠ (Value.slice (some ⟨w1.heap.size + 1, 0, none⟩) 1 1).ownBlock) := by
  have hb3 : Below w1.heap.size w1 ((w1.alloc p.obj).alloc p.obj) := ((Below.refl _ w1).alloc (Nat.le_refl _) _).alloc (by simp) _
  have hB1 := hb.bel.trans (hE1.bel.mono hb.bel.size)
  refine ⟨?_, ?_, hB1.trans (hb3.mono hB1.size), fun k hk => ⟨trivial, fun e => absurd (show k = w1.heap.size + 1 by simpa [Value.ownBlock] using e) (by omega)⟩⟩
  · have hp := (hE1.idle p.obj).p _ (List.mem_cons_self)
    have := N_one (W := w1.alloc p.obj) (base := W.heap.size) (ok := fun _ => True) (FK_pc hp) (by have := hB1.size; simp; omega) (fun _ _ => trivial) trivial
    simpa using this
  · have h1 := Kd.N_F (Kd.N_mono (Kd.N_bound (Kd.N_below hb.row hE1.bel)) (ok' := fun k => k < w1.heap.size) (fun k hk => hk.2))
    exact Kd.F_below h1 hb3
theorem menR_app {p : Pc} (hb : Beside K0 K w0 W wx ts ps bs A c sq) (hE1 : Env K wx w1 ts' (p :: ps) bs) : Kd.FK k113 (w1.alloc p.obj) K p.s [.slice p.A p.rs.length p.c, .int .i64 p.hid] ∧ (∀ k, K k → True ∧ some k ≠ (Value.slice A sq.length c).ownBlock) ∧ Kd.N k113 113 (w1.alloc p.obj) W.heap.size (fun _ => True) (.slice A sq.length c) sq ∧ Below W.heap.size W (w1.alloc p.obj) := by
  have hB1 := hb.bel.trans (hE1.bel.mono hb.bel.size)
  exact ⟨FK_pc ((hE1.idle p.obj).p _ List.mem_cons_self), fun k hk => ⟨trivial, fun e => hb.own k e.symm hk⟩, Kd.N_alloc (Kd.N_below hb.row hE1.bel) _, hB1.alloc hB1.size _⟩
end
set_option maxRecDepth 100000 in
set_option maxHeartbeats 16000000 in
theorem mend_env {K0 : Nat → Prop} {w0 W : World} {ts : List (Tree × Value)} {ps : List Pc} {bs : List (Nat × Obj)} (h : Env K0 w0 W ts ps bs) {l r : Tree} {vl vr : Value} (hl : (l, vl) ∈ ts) (hr : (r, vr) ∈ ts) (hsz : l.cells.length + r.cells.length ≤ 536870912) :
    Calls Tryd.prog 73 #[vl, vr] W (Mended K0 w0 ts ps bs (l.cells ++ r.cells)) := by
  obtain ⟨ql, rfl⟩ := (h.t _ hl).rep.ptr
  obtain ⟨qr, rfl⟩ := (h.t _ hr).rep.ptr
  have H0 : MenL K0 w0 W ts ps bs l.cells (.pointer ql) (.slice none 0 0) (.int .i64 0) W := MenL.mk 0 l [] rfl (by decide) (fun k hk => hk) (h.addT (h.t _ hl)) (Kd.N_nil _ _ _ _ _) (fun b e => by simp [Value.ownBlock] at e) (by simp) (Below.refl _ _) (fun x hx => new_lt (h.b x hx)) h.bel.size (by simp [scells]) (Nat.le_refl _)
  obtain ⟨L, hL⟩ : ∃ L, L = l.cells := ⟨_, rfl⟩
  obtain ⟨R, hR⟩ : ∃ R, R = r.cells := ⟨_, rfl⟩
  rw [← hL, ← hR] at hsz ⊢
  rw [← hL] at H0
  have HS := Lib.hid hsz
  have HR := Lib.hid hR
  have HL := Lib.hid hL
  clear hsz hL hR
  go_enter Tryd.func73, Tryd.ntmps73
  go_wp2
  go_loopw [0, 5, 14] (fun v0 v5 v14 wx => MenL K0 w0 W ts ps bs L v0 v5 v14 wx) (fun _ _ i _ => 2 - (intOf i).toNat)
  case atStart => exact H0
  case round =>
    clear H0
    obtain ⟨j, K, t, sq, q, A, c, rfl, hj, rfl, rfl, hb, hLc, hsl⟩ := hrel
    by_cases hjl : j < 2
    · have t1 : decide ((j : Int) < 2) = true := decide_eq_true (by omega)
      have j1 : (j : Int) < 2 := by omega
      cases t with
      | nil =>
        have hq := (hb.env.t _ List.mem_cons_self).rep.none
        subst hq
        have HLc := Lib.hid hLc
        have HB := Lib.hid hb
        clear hLc hb
        go_wp2
        go_roundw
        case rel => exact MenL.mk (j + 1) .nil sq rfl hjl HB.out.sub HB.out.env HB.out.row HB.out.own HB.out.ok HB.out.bel HB.out.box HB.out.ws HLc.out (by omega)
        case measure => simp [intOf]; omega
      | node tl rs hid tr plus =>
        obtain ⟨ad, had⟩ := (hb.env.t _ List.mem_cons_self).rep.some
        subst had
        have hsz1 : (Tree.node tl rs hid tr plus).cells.length ≤ 1073741824 := by
          have h1 := congrArg List.length hLc
          rw [List.length_append] at h1
          have := HS.out
          omega
        have hpop := popLast_env hb.env.rebase List.mem_cons_self hsz1
        have HP := Lib.hid hpop
        have HLc := Lib.hid hLc
        have HB := Lib.hid hb
        have hl32 : Hid ((([⟨[], 0⟩] : List S113).length + sq.length) * 32 ≤ 140737488355328) := Lib.hid (by simp; omega)
        clear hLc hb hpop hsz1
        go_wp2_with (first
          | (go_at_call 103; refine HP.out.mono ?_; rintro e w1 ⟨t', v', p, rfl, hE1, hc1⟩; have HC1 := Lib.hid hc1; clear hc1; have HAP := Lib.hid (menL_app HB.out hE1))
          | ((with_reducible refine gate_builtin (b := .append) (xs := #[.tmp 25, .tmp 26]) rfl ?_); at_builtin; refine Kd.N_append_rows k113 (w0 := W) W.heap.size rfl (.tmp 25) (.tmp 26) 101 113 (.agg #[.slice none 0 0, .int .i64 0]) 32 rfl Tryd.underlying101 info113 rfl (by decide) (by decide) _ [p.s] sq A sq.length c (fun _ => True) (fun k => k < w1.heap.size) rfl rfl HAP.out.1 HAP.out.2.1 HAP.out.2.2.2 (fun _ _ => trivial) HAP.out.2.2.1 HAP.out.2.2.1.size hl32.out ?_; intro v8 w8 hN8 hB8 hg8 hat8))
        have HF := Lib.hid (menL_step (x := (j : Int) + 1) HB.out HLc.out hsl hjl (hE1.onto HB.out.env) hE1.bel HC1.out hN8 hB8 hg8 hat8 rfl)
        clear hN8 hB8 hg8 hat8 HAP hE1
        go_wp2
        go_roundw
        case rel => exact HF.out
        case measure => simp [intOf]; omega
    · have t1 : decide ((j : Int) < 2) = false := decide_eq_false (by omega)
      have hrm := hb.env.t (r, .pointer qr) (u1 hr)
      have H1 : MenR K0 w0 W ts ps bs (L ++ R) t (.pointer q) (.pointer qr) (.slice A sq.length c) (.int .i64 0) wr := MenR.mk 0 r sq rfl (by decide) hb.sub (hb.env.addT hrm) hb.row hb.own hb.ok hb.bel hb.box hb.ws (by rw [hLc, HR.out]) (by omega)
      clear hb hLc hsl hrm hj hjl
      obtain ⟨n2, hn2⟩ : ∃ n2 : Nat, n2 = sq.length := ⟨_, rfl⟩
      rw [← hn2] at H1 ⊢
      clear hn2
      go_wp2
      go_loopw [1, 5, 29] (fun v1 v5 v29 wx => MenR K0 w0 W ts ps bs (L ++ R) t (.pointer q) v1 v5 v29 wx) (fun _ _ i _ => 2 - (intOf i).toNat)
      case atStart => exact H1
      case round =>
        clear H1
        obtain ⟨i, K2, r2, sq2, q2, A2, c2, rfl, hi, rfl, rfl, hb, hC, hsl⟩ := hrel
        have hlen : t.cells.length + (scells sq2).length + r2.cells.length ≤ 536870912 := by
          have h1 := congrArg List.length hC
          simp only [List.length_append] at h1
          have := HS.out
          omega
        have HLN := Lib.hid hlen
        clear hlen
        by_cases hil : i < 2
        · have t2 : decide ((i : Int) < 2) = true := decide_eq_true (by omega)
          have i1 : (i : Int) < 2 := by omega
          cases r2 with
          | nil =>
            have hq := (hb.env.t _ List.mem_cons_self).rep.none
            subst hq
            have HC := Lib.hid hC
            have HB := Lib.hid hb
            clear hC hb
            go_wp2
            go_roundw
            case rel => exact MenR.mk (i + 1) .nil sq2 rfl hil HB.out.sub HB.out.env HB.out.row HB.out.own HB.out.ok HB.out.bel HB.out.box HB.out.ws HC.out (by omega)
            case measure => simp [intOf]; omega
          | node tl rs hid tr plus =>
            obtain ⟨ad, had⟩ := (hb.env.t _ List.mem_cons_self).rep.some
            subst had
            have hpop := popFirst_env hb.env.rebase List.mem_cons_self (by have := HLN.out; omega)
            have HP := Lib.hid hpop
            have HC := Lib.hid hC
            have HB := Lib.hid hb
            have hl32 : Hid ((sq2.length + 1) * 32 ≤ 140737488355328) := Lib.hid (by omega)
            clear hC hb hpop
            go_wp2_with (first
              | (go_at_call 104; refine HP.out.mono ?_; rintro e w1 ⟨t', v', p, rfl, hE1, hc1⟩; have HC1 := Lib.hid hc1; clear hc1; have HAP := Lib.hid (menR_app HB.out hE1))
              | ((with_reducible refine gate_builtin (b := .append) (xs := #[.tmp 39, .tmp 41]) rfl ?_); at_builtin; refine Kd.N_append k113 (w0 := W) (W := w1.alloc p.obj) W.heap.size rfl (.tmp 39) (.tmp 41) 101 113 (.agg #[.slice none 0 0, .int .i64 0]) 32 rfl Tryd.underlying101 info113 rfl (by decide) (by decide) _ sq2 p.s [.slice p.A p.rs.length p.c, .int .i64 p.hid] (fun _ => True) K2 rfl (by rw [World.size_alloc]; rfl) HAP.out.1 HAP.out.2.1 (fun _ _ => trivial) HAP.out.2.2.1 HAP.out.2.2.2 HAP.out.2.2.2.size hl32.out ?_; intro v8 w8 hN8 hB8 hg8 hat8))
            have HF := Lib.hid (menR_step (x := (i : Int) + 1) HB.out HC.out hsl hil (hE1.onto HB.out.env) HC1.out hN8 hB8 hg8 hat8 rfl)
            clear hN8 hB8 hg8 hat8 HAP hE1
            go_wp2
            go_roundw
            case rel => exact HF.out
            case measure => simp [intOf]; omega
        · have t2 : decide ((i : Int) < 2) = false := decide_eq_false (by omega)
          have hrd := Kd.N_reads' hb.row
          have hev := evened_pcs (sq := sq2) (by have := HLN.out; omega) hb.ok hrd.2.2 hrd.2.1
          have HEV := Lib.hid hev
          have HB := Lib.hid hb
          have HC := Lib.hid hC
          clear hev hrd hb hC hi hil
          go_wp2_with (go_at_call 105; refine HEV.out.mono ?_; rintro e w7 ⟨A7, c7, qs, rfl, hpc, hql, hP, hK, hb7⟩)
          have hE7 : Env K2 w0 w7 ((t, .pointer q) :: (r2, .pointer q2) :: ts) (qs ++ ps) bs := ((HB.out.env.below hb7).addPs (fun p hp => (hK p hp).mono (fun k hk => HB.out.env.up k hk))).sub (fun y hy => by
            rcases List.mem_cons.1 hy with rfl | hy
            · exact m1
            · rcases List.mem_cons.1 hy with rfl | hy
              · exact m0
              · exact u2 hy) (fun y hy => hy) (fun y hy => hy)
          have H2 : MenJ K2 w0 w7 ts ps bs t.cells qs r2 (.pointer q2) (.pointer q) (.int .i64 0) w7 := MenJ.mk 0 t rfl (Nat.zero_le _) hE7 (by simp [pcells]) (Below.refl _ _)
          have hlq : t.cells.length + (pcells qs).length + r2.cells.length ≤ 536870912 := by rw [hpc]; exact HLN.out
          have hqb : (qs.length : Int) ≤ 536870912 := by have := HLN.out; omega
          have HPC := Lib.hid hpc
          have HLQ := Lib.hid hlq
          clear hpc hql hK hlq hE7 HEV
          go_loopw [0, 47] (fun v0 v47 wx => MenJ K2 w0 w7 ts ps bs t.cells qs r2 (.pointer q2) v0 v47 wx) (fun _ i _ => qs.length - (intOf i).toNat)
          case atStart => exact H2
          case round =>
            clear H2
            obtain ⟨k, l3, q3, rfl, hk, rfl, hE, hc3, hBx⟩ := hrel
            by_cases hkl : k < qs.length
            · obtain ⟨g, o, hA7, x0, x1⟩ := (hP.below hBx) k hkl
              have hpt := pcells_take hkl
              have hmem : qs[k] ∈ qs := List.getElem_mem hkl
              have htl : (pcells (qs.take (k + 1))).length ≤ (pcells qs).length := by
                have := congrArg (fun x => (pcells x).length) (List.take_append_drop (k + 1) qs)
                simp only [pcells, List.flatMap_append, List.length_append] at this
                simp only [pcells]
                omega
              obtain ⟨pq, hpq⟩ : ∃ pq, pq = qs[k] := ⟨_, rfl⟩
              rw [← hpq] at x0 x1 hpt hmem
              have hs3 : l3.cells.length + pq.rs.length + (Tree.nil).cells.length ≤ 1073741824 := by
                have h1 : pq.cells.length = pq.rs.length := by simp [Pc.cells]
                rw [hpt, List.length_append, h1] at htl
                rw [hc3, List.length_append, show (Tree.nil).cells.length = 0 from rfl]
                have := HLQ.out
                omega
              have hjo := join_env ((hE.rebase.nilT).idle pq.obj) (l := l3) (r := .nil) (p := pq) m1 m0 (List.mem_append_left _ hmem) hs3
              have kb : (k : Int) ≤ 536870912 := by omega
              have kl : (k : Int) < (qs.length : Int) := by omega
              have HJ := Lib.hid hjo
              have HPT := Lib.hid hpt
              have HC3 := Lib.hid hc3
              have HE := Lib.hid hE
              subst hA7
              clear hjo hpt hmem htl hpq hs3 hc3 hE
              go_wp2_with (go_at_call 102; refine HJ.out.mono ?_; rintro e w8 ⟨t8, v8, rfl, hE8, hc8, _, _⟩)
              have hF : MenJ K2 w0 w7 ts ps bs t.cells qs r2 (.pointer q2) v8 (.int .i64 ((k : Int) + 1)) w8 := MenJ.mk (k + 1) t8 rfl hkl ((hE8.onto HE.out).sub (sub_keep fun y hy => u2 hy) (fun y hy => hy) (fun y hy => hy)) (by rw [hc8, HC3.out, HPT.out]; simp [Tree.cells, List.append_assoc]) (hBx.trans (hE8.bel.mono hBx.size))
              clear hE8 hc8
              go_wp2
              go_roundw
              case rel => exact hF
              case measure => simp [intOf]; omega
            · have hkq : k = qs.length := by omega
              subst hkq
              rw [List.take_length] at hc3
              clear hk hkl
              cases r2 with
              | nil =>
                have hq := (hE.t _ m1).rep.none
                subst hq
                have hfin : l3.cells = L ++ R := by rw [hc3, HPC.out, ← HC.out]; simp [Tree.cells]
                have HF := Lib.hid hfin
                clear hc3 hfin
                go_wp2
                go_ret
                exact ⟨l3, q3, rfl, (hE.mono HB.out.sub (fun k hk => HB.out.sub k (hE.up k hk))).sub (sub_keep fun y hy => u1 hy) (fun y hy => List.mem_append_right _ hy) (fun y hy => hy), HF.out⟩
              | node tl rs hid tr plus =>
                obtain ⟨ad, had⟩ := (hE.t _ m1).rep.some
                subst had
                have hl3 : l3.cells.length + (Tree.node tl rs hid tr plus).cells.length ≤ 536870912 := by rw [hc3, List.length_append]; exact HLQ.out
                have hpop := popFirst_env hE.rebase m1 (by omega)
                have HP := Lib.hid hpop
                have HC3 := Lib.hid hc3
                have HE := Lib.hid hE
                have HL3 := Lib.hid hl3
                clear hpop hc3 hE hl3
                go_wp2_with (first
                  | (go_at_call 104; refine HP.out.mono ?_; rintro e w1 ⟨t', v', p, rfl, hE1, hc1⟩; have HC1 := Lib.hid hc1; clear hc1)
                  | (go_at_call 102; refine (join_env (hE1.idle p.obj) (l := l3) (r := t') (p := p) (u1 m0) m0 m0 ?_).mono ?_; have h1 := congrArg List.length HC1.out; rw [List.length_append] at h1; have h2 : p.cells.length = p.rs.length := (by simp [Pc.cells]); have := HL3.out; omega; rintro e w8 ⟨t8, v8, rfl, hE8, hc8, _, _⟩))
                go_ret
                obtain ⟨q8, rfl⟩ := (hE8.t _ m0).rep.ptr
                have hEf := hE8.onto HE.out
                exact ⟨t8, q8, rfl, (hEf.mono HB.out.sub (fun k hk => HB.out.sub k (hEf.up k hk))).sub (sub_keep fun y hy => u3 hy) (fun y hy => u1 (List.mem_append_right _ hy)) (fun y hy => hy), by rw [hc8, HC3.out, List.append_assoc, HC1.out, HPC.out, HC.out]⟩
end Go.Proofs.YteeigokkafcaaaaDoorRope
end
section
namespace Go.Proofs.YteeigokkafcaaaaDoorRope
open Go.RowKit Go.Proofs.YteeigokkafcaaaaDoorW.PrintWords Go.Proofs.YteeigokkafcaaaaDoorW.PrintMore Go.Proofs.YteeigokkafcaaaaDoor.Pr
set_option linter.unusedSimpArgs false
set_option linter.unusedVariables false
attribute [local go_sem ↓] Go.wp_at_zero Go.wp_at_succ
theorem run_cell {W : World} {A : Option Addr} {l : List (List Int × Int)} (h : Kd.C k58 W A l.length (sRuns l)) {k : Nat} (hk : k < l.length) : ∃ ad, A = some ad ∧ W.cell? (ad.add (k * 2)) = some (.string (txt l[k].1)) ∧ W.cell? ⟨(ad.add (k * 2)).block, (ad.add (k * 2)).off + 1, none⟩ = some (.int .i64 l[k].2) := by
  have hl : (sRuns l).length = l.length := by simp [sRuns]
  obtain ⟨ad, e, h1, h2⟩ := at_T58 h (k : Int) (by omega) (by omega)
  have hx : rd_T58 (sRuns l) (k : Int) = ⟨txt l[k].1, l[k].2⟩ := by simp [rd_T58, sRuns, hk]
  rw [hx] at h1 h2
  exact ⟨ad, e, by simpa using h1, by simpa using h2⟩
theorem txt_ne {a : List Int} (h : a ≠ []) : (txt a).toList.isEmpty = false := by
  rw [ByteArray.toList_eq, txt_list]
  cases a with
  | nil => exact absurd rfl h
  | cons r a =>
    rw [utf_cons]
    have := wid_pos r
    unfold wid at this
    generalize Lib.encodeRune r = x at this
    cases x with
    | nil => simp at this
    | cons y x => rfl
theorem rcells_append (a b : List (List Int × Int)) : rcells (a ++ b) = rcells a ++ rcells b := List.flatMap_append
theorem rcells_one (x : List Int × Int) : rcells [x] = x.1.map (fun c => (c, x.2)) := by simp [rcells]
theorem rcells_take {l : List (List Int × Int)} {k : Nat} (hk : k < l.length) : (rcells (l.take (k + 1))).length = (rcells (l.take k)).length + l[k].1.length := by
  rw [List.take_succ_eq_append_getElem hk, rcells_append, List.length_append, rcells_one, List.length_map]
theorem counter_yes {h : Int} (h0 : 0 ≤ h) (h1 : h ≤ 1048576) : rope_counter.f h = some 0 := by
  unfold rope_counter.f
  rw [if_neg (by omega), if_neg (by omega)]
theorem rcells_le {l : List (List Int × Int)} (k : Nat) : (rcells (l.take k)).length ≤ (rcells l).length := by
  have := congrArg (fun x => (rcells x).length) (List.take_append_drop k l)
  simp only [rcells_append, List.length_append] at this
  omega
theorem grown_cell {W W1 : World} {row : Option Nat} {b o : Nat} {x : Value} (hg : W.grownBy W1 row) (hne : some b ≠ row) (h : W.cell? ⟨b, o, none⟩ = some x) : W1.cell? ⟨b, o, none⟩ = some x := by
  have hl := World.block_lt_of_cell? W _ h
  rw [World.cell?_of_block (w := W) (w' := W1) (hg.block b hl hne)]
  exact h
theorem from_okp {w W5 w6 : World} {v : Value} {xs : List S113} (hN : Kd.N k113 113 W5 w.heap.size (fun b => w.heap.size ≤ b) v xs) (hB : Below w.heap.size w W5) (hb6 : Below W5.heap.size W5 w6) : ∀ k, (W5.heap.size < k ∨ w6.heap.size ≤ k) → w.heap.size ≤ k ∧ some k ≠ v.ownBlock := by
  intro k hk
  have h1 := hB.size
  have h2 := hb6.size
  have h3 : W5.heap.size ≤ k := by omega
  exact ⟨by omega, fun e => by have := Kd.N_lt hN k e.symm; omega⟩
set_option maxRecDepth 100000 in
set_option maxHeartbeats 8000000 in
theorem from_yes {l : List (List Int × Int)} (hg : GoodRuns l) (hlen : (rcells l).length ≤ 1048576) (hll : l.length ≤ 1048576) {w : World} (hw : BarsAt w) {A : Option Addr} {c : Nat} (hA : Kd.C k58 w A l.length (sRuns l)) (hc : l.length ≤ c) :
    Calls Tryd.prog 18 #[.slice A l.length c] w fun e w' => ∃ b t, e = .returned (.tuple #[.pointer (some ⟨b, 0, none⟩), .int .i64 0]) ∧ w.heap.size ≤ b ∧ RopeAt (fun k => w.heap.size ≤ k ∧ k ≠ b) w' b t ∧ t.cells = rcells l ∧ Below w.heap.size w w' := by
  have HLEN := Lib.hid hlen
  clear hlen
  go_enter Tryd.func18, Tryd.ntmps18
  go_wp2
  go_loopw [4, 15] (fun t i wr => ∃ k : Nat, k ≤ l.length ∧ i = .int .i64 (k : Int) ∧ t = .int .i64 ((rcells (l.take k)).length : Int) ∧ Below w.heap.size w wr) (fun _ i _ => l.length - (intOf i).toNat)
  case atStart => exact ⟨0, Nat.zero_le _, rfl, rfl, Below.refl _ _⟩
  case round =>
    obtain ⟨k, hkl, rfl, rfl, hB⟩ := hrel
    by_cases hlt : k < l.length
    · have hle := rcells_le (l := l) k
      have hle1 := rcells_le (l := l) (k + 1)
      have htk := rcells_take hlt
      obtain ⟨h1, h2, h3, h4⟩ := hg.one _ (List.getElem_mem hlt)
      obtain ⟨ad, hAd, x0, x1⟩ := run_cell hA hlt
      subst hAd
      have y0 := pw_cell_below hB x0
      have y1 := pw_cell_below hB x1
      have e0 := txt_ne h1
      have kb : (k : Int) ≤ 1048576 := by omega
      have hb1 : ((rcells (l.take k)).length : Int) + (l[k].1.length : Int) ≤ 1048576 := by have := HLEN.out; omega
      have hb2 : (l[k].1.length : Int) ≤ 1048576 := by have := HLEN.out; omega
      have hn : l[k].1.length ≤ 1073741824 := by omega
      have hwr := hw.below hB
      have HTK := Lib.hid htk
      clear hle hle1 htk x0 x1
      by_cases hk0 : k = 0
      · have d0 : decide (0 < k) = false := decide_eq_false (by omega)
        clear hk0
        go_wp2
        go_quiet (fail)
        go_wp2_with (first
          | (go_at_call 53; refine (check_yes h2 hn (hwr.below (pw_below_drewN (below_alloc (Below.refl _ _) _) _))).mono ?_; rintro e w2 ⟨rfl, hb3⟩; have z0 := bcell hb3 (b := wr.heap.size) (o := 1) (x := .int .i64 l[k].2) (by simp))
          | (go_at_call 54; refine (rope_counter.calls _ _ _ (counter_yes h3 h4)).mono ?_; rintro e w3 ⟨rfl, ⟨nd, rfl⟩⟩))
        have hB2 : Below w.heap.size w (w2.drewN nd) := pw_below_drewN (hB.trans ((pw_below_drewN (below_alloc (Below.refl _ wr) _) _).trans (hb3.mono (by simp)) |>.mono hB.size)) nd
        go_roundw
        case rel => exact ⟨k + 1, hlt, by go_num, by rw [HTK.out]; go_num, hB2⟩
        case measure => simp [intOf]; omega
      · have hkp : 0 < k := by omega
        have hl1 : k - 1 < l.length := by omega
        obtain ⟨ad', hAd', xx, x3⟩ := run_cell hA hl1
        clear xx
        injection hAd' with hAd'
        subst hAd'
        have y3 := pw_cell_below hB x3
        have hne : (l[k].2 == l[k - 1].2) = false := by
          have := hg.two (k - 1) (by omega)
          simp only [show k - 1 + 1 = k by omega] at this
          exact beq_eq_false_iff_ne.mpr this
        obtain ⟨q, hq⟩ : ∃ q, q = l[k - 1].2 := ⟨_, rfl⟩
        rw [← hq] at y3 hne
        clear hq
        have d0 : decide (0 < k) = true := decide_eq_true hkp
        obtain ⟨j, hj⟩ : ∃ j : Int, (k : Int) - 1 = j := ⟨_, rfl⟩
        have wk : IntKind.i64.wrap ((k : Int) - 1) = j := ((IntWalk.i64_left _).trans (w64 (by omega) (by omega))).trans hj
        have kn : k - 1 = j.toNat := by omega
        rw [kn] at y3
        have p0 : (0 ≤ j) = True := eq_true (by omega)
        have p1 : (j < (l.length : Int)) = True := eq_true (by omega)
        clear hk0 x3 hkp kn hj
        clear hl1
        go_wp2
        obtain ⟨W5, hW5⟩ : ∃ W5, wr.alloc (.cells #[.string (txt l[k].1), .int .i64 l[k].2] 58) = W5 := ⟨_, rfl⟩
        have hb5 : Below wr.heap.size wr W5 := by rw [← hW5]; exact below_alloc (Below.refl _ wr) _
        have q0 : W5.cell? ⟨wr.heap.size, 0, none⟩ = some (.string (txt l[k].1)) := by rw [← hW5]; simp
        have q1 : W5.cell? ⟨wr.heap.size, 1, none⟩ = some (.int .i64 l[k].2) := by rw [← hW5]; simp
        have y5 := pw_cell_below hb5 y3
        rw [hW5]
        clear hW5 y3 y0 y1
        go_quiet (fail)
        go_wp2_with (first
          | (go_at_call 53; refine (check_yes h2 hn (hwr.below (pw_below_drewN hb5 _))).mono ?_; rintro e w2 ⟨rfl, hb3⟩; have z0 := pw_cell_below hb3 (show (W5.drewN nq).cell? _ = _ from q1))
          | (go_at_call 54; refine (rope_counter.calls _ _ _ (counter_yes h3 h4)).mono ?_; rintro e w3 ⟨rfl, ⟨nd, rfl⟩⟩))
        have hB2 : Below w.heap.size w (w2.drewN nd) := pw_below_drewN (hB.trans ((pw_below_drewN hb5 _).trans (hb3.mono hb5.size) |>.mono hB.size)) nd
        go_roundw
        case rel => exact ⟨k + 1, hlt, by go_num, by rw [HTK.out]; go_num, hB2⟩
        case measure => simp [intOf]; omega
    · have hkl2 : k = l.length := by omega
      subst hkl2
      rw [List.take_length]
      clear hlt hkl
      have hb4 : ((rcells l).length : Int) ≤ 1048576 := by have := HLEN.out; omega
      have d4 : decide ((1048576 : Int) < ((rcells l).length : Int)) = false := decide_eq_false (by omega)
      go_wp2
      clear d4
      have hsmall : ∀ x ∈ l, x.1.length ≤ 1073741824 := by
        intro x hx
        obtain ⟨k, hk, rfl⟩ := List.getElem_of_mem hx
        have h1 := rcells_take hk
        have h2 := rcells_le (l := l) (k + 1)
        have := HLEN.out
        omega
      go_loopw [10, 62] (fun v i wx => ∃ k : Nat, k ≤ l.length ∧ i = .int .i64 (k : Int) ∧ Kd.N k113 113 wx w.heap.size (fun b => w.heap.size ≤ b) v (cutAll (l.take k)) ∧ Below w.heap.size w wx) (fun _ i _ => l.length - (intOf i).toNat)
      case atStart => exact ⟨0, Nat.zero_le _, rfl, Kd.N_nil _ _ _ _ _, hB⟩
      case round =>
        clear hB
        obtain ⟨k, hkl, rfl, hN, hB⟩ := hrel
        by_cases hlt : k < l.length
        · obtain ⟨h1, h2, h3, h4⟩ := hg.one _ (List.getElem_mem hlt)
          obtain ⟨ad, hAd, x0, x1⟩ := run_cell hA hlt
          subst hAd
          have y0 := pw_cell_below hB x0
          have y1 := pw_cell_below hB x1
          have hn : l[k].1.length ≤ 1073741824 := hsmall _ (List.getElem_mem hlt)
          have kb : (k : Int) ≤ 1048576 := by omega
          have hct := cutAll_take hlt
          have hcl := cutAll_len (l.take k) (fun x hx => hsmall x (List.mem_of_mem_take hx))
          have hcl2 := rcells_le (l := l) k
          have hcs := (cutS_law l[k].1 l[k].2 hn).2.2
          have HCT := Lib.hid hct
          have hbig : ((cutAll (l.take k)).length + (cutS l[k].1 l[k].2).length) * 32 ≤ 140737488355328 := by have := HLEN.out; omega
          have HBIG := Lib.hid hbig
          clear hct hcl hcl2 hcs hbig x0 x1 hb4
          obtain ⟨rs, hrs⟩ : ∃ rs, rs = l[k].1 := ⟨_, rfl⟩
          obtain ⟨hd, hhd⟩ : ∃ hd, hd = l[k].2 := ⟨_, rfl⟩
          rw [← hrs] at y0 h2 hn HBIG HCT
          rw [← hhd] at y1 HBIG HCT
          clear hrs hhd h1 h3 h4
          go_wp2
          obtain ⟨W5, hW5⟩ : ∃ W5, wr.alloc (.cells #[.string (txt rs), .int .i64 hd] 58) = W5 := ⟨_, rfl⟩
          have hb5 : Below wr.heap.size wr W5 := by rw [← hW5]; exact below_alloc (Below.refl _ wr) _
          have q0 : W5.drew.cell? ⟨wr.heap.size, 0, none⟩ = some (.string (txt rs)) := by rw [← hW5]; simp
          have q1 : W5.drew.cell? ⟨wr.heap.size, 1, none⟩ = some (.int .i64 hd) := by rw [← hW5]; simp
          have hN5 := Kd.N_drew (Kd.N_below hN hb5)
          have hgne := Kd.N_ne hN5 (t := 58) (g := wr.heap.size) (cells := #[.string (txt rs), .int .i64 hd]) (by rw [← hW5]; exact heap_new wr _) (by decide)
          have hB5 := below_drew (hB.trans (hb5.mono hB.size))
          rw [hW5]
          obtain ⟨g, hgg⟩ : ∃ g, g = wr.heap.size := ⟨_, rfl⟩
          rw [← hgg] at q0 q1 hgne ⊢
          clear hW5 y0 y1 hN hB hb5 hgg
          go_region_held3 (fun W' => W'.cell? ⟨g, 0, none⟩ = some (.string (txt rs)) ∧ W'.cell? ⟨g, 1, none⟩ = some (.int .i64 hd))
            (first | with_reducible exact ⟨q0, q1⟩ | with_reducible exact ⟨r0, r1⟩ | with_reducible exact ⟨s0, s1⟩ | with_reducible exact ⟨t0, t1⟩ | fail)
            (first
              | (go_at_call 56; refine (runesOf_sl rs h2.rns hn _).mono ?_; rintro e w6 ⟨A6, c6, rfl, hV6, hb6⟩; have r0 := pw_cell_below hb6 q0; have r1 := pw_cell_below hb6 q1)
              | (go_at_call 55; refine (cutUp_sl hV6 hn).mono ?_; rintro e w7 ⟨A7, c7, rfl, hF7, hc7, hb7⟩; have s0 := pw_cell_below hb7 r0; have s1 := pw_cell_below hb7 r1)
              | ((refine Kd.N_append_rows_step k113 (w0 := w) w.heap.size (by rfl) (.tmp 66) (.tmp 72) 101 113 (.agg #[.slice none 0 0, .int .i64 0]) 32 rfl Tryd.underlying101 info113 rfl (by decide) (by decide) _ _ _ A7 _ c7 (fun b => w.heap.size ≤ b) _ rfl rfl (Kd.N_below hN5 (hb6.trans (hb7.mono hb6.size))) hF7 (from_okp hN5 hB5 hb6) (fun k hk => Nat.le_trans (hB5.trans ((hb6.trans (hb7.mono hb6.size)).mono hB5.size)).size hk) (hB5.trans ((hb6.trans (hb7.mono hb6.size)).mono hB5.size)) (hB5.trans ((hb6.trans (hb7.mono hb6.size)).mono hB5.size)).size HBIG.out ?_; intro v8 w8 hN8 hB8 hg8 hat8; have t0 := grown_cell hg8 hgne s0; have t1 := grown_cell hg8 hgne s1))
              | fail)
          have hN9 : Kd.N k113 113 w8 w.heap.size (fun b => w.heap.size ≤ b) v8 (cutAll (l.take (k + 1))) := by rw [HCT.out]; exact hN8
          go_wp2
          go_roundw
          case rel => exact ⟨k + 1, hlt, by go_num, hN9, hB8⟩
          case measure => simp [intOf]; omega
        · have hkl2 : k = l.length := by omega
          subst hkl2
          rw [List.take_length] at hN
          clear hlt hkl hb4
          have hok : ∀ x ∈ cutAll l, OkPc x := by
            intro x hx
            obtain ⟨y, hy, hx⟩ := List.mem_flatMap.1 hx
            obtain ⟨h1, h2, h3, h4⟩ := hg.one y hy
            obtain ⟨_, h5, _⟩ := cutS_law y.1 y.2 (hsmall y hy)
            obtain ⟨h6, _, h7⟩ := h5 x hx
            exact ⟨h6, by omega, by omega⟩
          obtain ⟨A7, c7, qs, hv, hc7, hqs, hP, hK⟩ := pcs_of_N hN hok
          have hE : Env (fun k => w.heap.size ≤ k) w wr [] qs [] := ⟨by simp, hK, by simp, hB, fun k hk => Nat.le_trans hB.size hk⟩
          have hcs : pcells qs = rcells l := by rw [pcells_scells, hqs, cutAll_cells l hsmall]
          have hql : qs.length ≤ (rcells l).length := by
            have := cutAll_len l hsmall
            rw [← hqs, List.length_map] at this
            exact this
          have hs1 : (pcells qs).length ≤ 1073741824 := by rw [hcs]; have := HLEN.out; omega
          have hs2 : qs.length ≤ 1073741824 := by have := HLEN.out; omega
          have HCS := Lib.hid hcs
          subst hv
          clear hcs hqs hql hN hok hK hB
          go_wp2_with (go_at_call 57; refine (build_env hE (fun q hq => hq) hP hc7 hs1 hs2).mono ?_; rintro e w3 ⟨t, v, rfl, hE3, hct, _, _⟩; obtain ⟨p, rfl⟩ := (hE3.t _ List.mem_cons_self).rep.ptr)
          go_ret2
          refine ⟨w3.heap.size, t, rfl, hE3.bel.size, ⟨⟨_, heap_new w3 _, ?_⟩, ?_⟩, hct.trans HCS.out, below_alloc hE3.bel _⟩
          · exact (((hE3.t _ List.mem_cons_self).bound).below (below_alloc (Below.refl _ w3) _)).mono (fun k hk => ⟨hk.1, by have := hk.2; omega⟩)
          · simp
end Go.Proofs.YteeigokkafcaaaaDoorRope
end
section
namespace Go.Proofs.YteeigokkafcaaaaDoorRope
open Go.RowKit Go.Proofs.YteeigokkafcaaaaDoorW.PrintWords Go.Proofs.YteeigokkafcaaaaDoorW.PrintMore Go.Proofs.YteeigokkafcaaaaDoor.Pr
set_option linter.unusedSimpArgs false
set_option linter.unusedVariables false
attribute [local go_sem] run_field2 run_field0
theorem cutUp_pcs {P0 : Nat → Prop} {A : Option Addr} {c : Nat} {l : List Int} {h : Int} {w : World} (hs : Kd.V (Kd.int .i32) 21 w w.heap.size P0 (.slice A l.length c) l) (hL : l.length ≤ 1073741824) (hh : 0 ≤ h ∧ h ≤ 1048577) :
    Calls Tryd.prog 55 #[.slice A l.length c, .int .i64 h] w fun e w' => ∃ A' c' qs, e = .returned (.slice A' qs.length c') ∧ qs.length ≤ c' ∧ pcells qs = l.map (fun c => (c, h)) ∧ qs.length ≤ l.length ∧ PcsAt w' A' qs ∧ (∀ q ∈ qs, PieceIn (fun k => P0 k ∨ w.heap.size ≤ k) w' q) ∧ Below w.heap.size w w' := by
  obtain ⟨k, hk⟩ := cutUp_is l h hL
  obtain ⟨h1, h2, h3⟩ := cutS_law l h hL
  refine (rope_cutUp.calls k P0 A c l h (cutS l h) w hs hk).mono ?_
  rintro e w' ⟨v, he, hN, hb⟩
  obtain ⟨A', c', qs, rfl, hc, hqs, hP, hK⟩ := pcs_of_N hN (fun x hx => ⟨(h2 x hx).1, by rw [(h2 x hx).2.2]; exact hh.1, by rw [(h2 x hx).2.2]; exact hh.2⟩)
  refine ⟨A', c', qs, he, hc, by rw [pcells_scells, hqs, h1], ?_, hP, hK, hb⟩
  rw [← hqs, List.length_map] at h3
  exact h3
abbrev Kr (K : Nat → Prop) (n : Nat) : Nat → Prop := KU (fun k => K k ∧ k < n) n
theorem RopeAt.blk {K : Nat → Prop} {w : World} {b : Nat} {t : Tree} (h : RopeAt K w b t) : ∃ v, w.heap[b]? = some (.cells #[.pointer v] 108 (0, 0)) ∧ Env (Kr K w.heap.size) w w [(t, .pointer v)] [] [] ∧ ¬ Kr K w.heap.size b ∧ b < w.heap.size := by
  obtain ⟨v, hv, ht⟩ := h.h
  obtain ⟨p, rfl⟩ := ht.rep.ptr
  have hlt := new_lt hv
  refine ⟨p, hv, ⟨fun x hx => ?_, by simp, by simp, Below.refl _ _, fun k hk => .inr hk⟩, fun hk => hk.elim (fun h1 => h.no h1.1) (fun h1 => by omega), hlt⟩
  have : x = (t, .pointer p) := by simpa using hx
  rw [this]
  exact ht.bound.mono (fun k hk => .inl hk)
theorem grown_set {W : World} {b : Nat} {u : Value} : W.grownBy (W.setCell ⟨b, 0, none⟩ u) (some b) :=
  ⟨rfl, rfl, rfl, by simp [World.setCell], fun k hk hne => Below.heap_setCell W ⟨b, 0, none⟩ u k (fun e => hne (by rw [show k = b from e]))⟩
theorem grown_after {w W W' : World} {b : Nat} (hb : Below w.heap.size w W) (hg : W.grownBy W' (some b)) : w.grownBy W' (some b) :=
  ⟨hg.os.trans hb.os, hg.tape.trans hb.tape, hg.output.trans hb.output, Nat.le_trans hb.size hg.size, fun k hk hne => (hg.block k (Nat.lt_of_lt_of_le hk hb.size) hne).trans (hb.block k hk)⟩
theorem RopeAt.put {K : Nat → Prop} {w W : World} {b : Nat} {p0 p : Option Addr} {t : Tree} {ts : List (Tree × Value)} {ps : List Pc} {bs : List (Nat × Obj)} (hv : w.heap[b]? = some (.cells #[.pointer p0] 108 (0, 0))) (hn : ¬ K b) (hE : Env K w W ((t, .pointer p) :: ts) ps bs) : RopeAt K (W.setCell ⟨b, 0, none⟩ (.pointer p)) b t := by
  have hlt := new_lt hv
  have hW := (hE.bel.block b hlt).trans hv
  refine ⟨⟨.pointer p, ?_, ?_⟩, hn⟩
  · simp [World.setCell, Array.getElem?_modify, hW]
  · have ht := hE.t _ List.mem_cons_self
    exact ⟨ht.rep.move (fun k hk _ => Below.heap_setCell W ⟨b, 0, none⟩ _ k (fun e => hn (by rw [← show k = b from e]; exact hk))), ht.good⟩
theorem box_cell {w W : World} {b : Nat} {p0 : Option Addr} (hv : w.heap[b]? = some (.cells #[.pointer p0] 108 (0, 0))) (hb : Below w.heap.size w W) : W.cell? ⟨b, 0, none⟩ = some (.pointer p0) ∧ W.frozen? ⟨b, 0, none⟩ = false := by
  have hW := (hb.block b (new_lt hv)).trans hv
  exact ⟨by simp [World.cell?, hW], by simp [World.frozen?, hW]⟩
def insC (cs : List (Int × Int)) (at_ : Nat) (l : List Int) (h : Int) : List (Int × Int) := cs.take at_ ++ l.map (fun c => (c, h)) ++ cs.drop at_
theorem insC_len (cs : List (Int × Int)) (at_ : Nat) (l : List Int) (h : Int) : (insC cs at_ l h).length = cs.length + l.length := by
  simp [insC]
  omega
set_option maxRecDepth 100000 in
set_option maxHeartbeats 16000000 in
theorem insert_yes {K : Nat → Prop} {w : World} {b : Nat} {t : Tree} (h : RopeAt K w b t) (hw : BarsAt w) {at_ : Nat} {l : List Int} {hd : Int} (ha : at_ ≤ t.cells.length) (hl : Lets l) (hne : l ≠ []) (hh : 0 ≤ hd ∧ hd ≤ 1048576) (hsz : t.cells.length + l.length ≤ 1048576) :
    Calls Tryd.prog 33 #[.pointer (some ⟨b, 0, none⟩), .int .i64 (at_ : Int), .string (txt l), .int .i64 hd] w fun e w' => ∃ t', e = .returned (.int .i64 0) ∧ RopeAt (Kr K w.heap.size) w' b t' ∧ t'.cells = insC t.cells at_ l hd ∧ w.grownBy w' (some b) := by
  obtain ⟨p0, hv, hE, hn, hlt⟩ := h.blk
  have hln : 0 < l.length := List.length_pos_iff.2 hne
  have d0 : decide ((at_ : Int) < 0) = false := decide_eq_false (by omega)
  have d1 : decide (t.cells.length < at_) = false := decide_eq_false (by omega)
  have d2 : decide ((1048576 : Int) < (t.cells.length : Int) + (l.length : Int)) = false := decide_eq_false (by omega)
  have d3 : (l.length == 0) = false := beq_eq_false_iff_ne.mpr (by omega)
  have d4 : ((l.length : Int) == 0) = false := beq_eq_false_iff_ne.mpr (by omega)
  have b1 : (t.cells.length : Int) ≤ 1048576 := by omega
  have b2 : (l.length : Int) ≤ 1048576 := by omega
  have hc := counter_yes hh.1 hh.2
  have HC := Lib.hid hc
  have HH := Lib.hid hh
  have HSZ := Lib.hid hsz
  have HA := Lib.hid ha
  have HV := Lib.hid hv
  have HLT := Lib.hid hlt
  clear hc hh hsz ha hln hne
  have tok : True := trivial
  have tok2 : True := trivial
  have hc0 := (box_cell HV.out (Below.refl _ w)).1
  go_enter Tryd.func33, Tryd.ntmps33
  go_wp2_with (first
    | (go_at_call 19; clear tok; refine (total_calls h).mono ?_; rintro e w1 ⟨rfl, hb1⟩)
    | (go_at_call 53; refine (check_yes hl (by have := HSZ.out; omega) (hw.below hb1)).mono ?_; rintro e w2 ⟨rfl, hb2⟩; have hb12 := hb1.trans (hb2.mono hb1.size))
    | (go_at_call 54; refine (rope_counter.calls _ _ _ HC.out).mono ?_; rintro e w3 ⟨rfl, ⟨nd, rfl⟩⟩; have hb13 := pw_below_drewN hb12 nd)
    | (go_at_call 19; refine (total_calls (h.below hb13)).mono ?_; rintro e w4 ⟨rfl, hb4⟩; have hb14 := hb13.trans (hb4.mono hb13.size); have hE4 := hE.below hb14; have hc4 := (box_cell HV.out hb14).1)
    | (go_at_call 72; refine (split_env hE4 List.mem_cons_self HA.out (by have := HSZ.out; omega)).mono ?_; rintro e w5 ⟨ta, tb, va, vb, rfl, hE5, hca, hcb⟩)
    | (go_at_call 56; refine (runesOf_sl l hl.rns (by have := HSZ.out; omega) w5).mono ?_; rintro e w6 ⟨A6, c6, rfl, hV6, hb6⟩)
    | (go_at_call 55; refine (cutUp_pcs hV6 (by have := HSZ.out; omega) ⟨HH.out.1, by have := HH.out.2; omega⟩).mono ?_; rintro e w7 ⟨A7, c7, qs, rfl, hqc, hqp, hql, hP7, hK7, hb7⟩; have hE7 := ((hE5.below hb6).below hb7).addPs (fun q hq => (hK7 q hq).mono (fun k hk => .inr (by have := hE5.bel.size; have := hb6.size; omega))))
    | (go_at_call 57; refine (build_env hE7 (qs := qs) (fun q hq => List.mem_append_left _ hq) hP7 hqc (by rw [hqp, List.length_map]; have := HSZ.out; omega) (by have := HSZ.out; omega)).mono ?_; rintro e w8 ⟨t8, v8, rfl, hE8, hc8, _, _⟩)
    | (go_at_call 73; clear tok2; refine (mend_env hE8 (l := ta) (r := t8) m1 m0 ?_).mono ?_; (rw [hc8, hqp, hca, List.length_map, List.length_take]; have := HSZ.out; have := HA.out; omega); rintro e w9 ⟨t9, p9, rfl, hE9, hc9⟩)
    | (go_at_call 73; refine (mend_env hE9 (l := t9) (r := tb) m0 m3 ?_).mono ?_; (rw [hc9, hc8, hqp, hca, hcb, List.length_append, List.length_map, List.length_take, List.length_drop]; have := HSZ.out; have := HA.out; omega); rintro e wa ⟨ta', pa, rfl, hEa, hca'⟩; have hya := box_cell HV.out hEa.bel; obtain ⟨hya1, hya2⟩ := hya; have hla := Nat.lt_of_lt_of_le HLT.out hEa.bel.size))
  go_ret
  exact ⟨ta', rfl, RopeAt.put HV.out hn hEa, by rw [hca', hc9, hc8, hqp, hca, hcb]; rfl, grown_after hEa.bel grown_set⟩
end Go.Proofs.YteeigokkafcaaaaDoorRope
end
section
namespace Go.Proofs.YteeigokkafcaaaaDoorRope
open Go.RowKit Go.Proofs.YteeigokkafcaaaaDoorW.PrintWords Go.Proofs.YteeigokkafcaaaaDoorW.PrintMore Go.Proofs.YteeigokkafcaaaaDoor.Pr
set_option linter.unusedSimpArgs false
set_option linter.unusedVariables false
theorem rest_is {a m : Int} (h0 : 0 < m) (h1 : m ≤ 1152921504606846976) : redraftlaw03_rest.f a m = some (a % m) := by
  unfold redraftlaw03_rest.f
  rw [if_neg (by omega)]
  have e1 : Int.tmod a m = if 0 ≤ a ∨ m ∣ a then a % m else a % m - m := by
    rw [Int.tmod_eq_emod]
    by_cases c : 0 ≤ a ∨ m ∣ a
    · rw [if_pos c, if_pos c]; simp
    · rw [if_neg c, if_neg c]
      have : (m.natAbs : Int) = m := by omega
      rw [this]
  have b0 := Int.emod_nonneg a (show m ≠ 0 by omega)
  have b1 := Int.emod_lt_of_pos a h0
  have e2 : wrap64 (Int.tmod a m + m) = Int.tmod a m + m := by
    refine w64 ?_ ?_ <;> (rw [e1]; split <;> omega)
  rw [e2, Int.tmod_eq_emod_of_nonneg (by rw [e1]; split <;> omega), Int.add_emod_right, e1]
  split
  · rw [Int.emod_emod_of_dvd _ (Int.dvd_refl m)]
  · rw [Int.sub_emod_right, Int.emod_emod_of_dvd _ (Int.dvd_refl m)]
def signOf (k : Int) : Int := if k % 5 = 1 then 233 else if k % 5 = 2 then 8364 else if k % 5 = 3 then 128512 else 97 + k % 26
theorem sign_is (k : Int) : redraftlaw03_sign.f k = some (signOf k) := by
  unfold redraftlaw03_sign.f signOf
  rw [rest_is (by decide) (by decide), rest_is (by decide) (by decide)]
  simp only [Option.bind_some]
  have b0 := Int.emod_nonneg k (show (26 : Int) ≠ 0 by decide)
  have b1 := Int.emod_lt_of_pos k (show (0 : Int) < 26 by decide)
  have e : wrap32 (wrap64 (97 + k % 26)) = 97 + k % 26 := by
    rw [w64 (by omega) (by omega)]
    unfold wrap32; omega
  rw [e]
  split
  · rfl
  · split
    · rfl
    · split <;> rfl
theorem sign_let (k : Int) : Let (signOf k) := by
  unfold signOf
  have b0 := Int.emod_nonneg k (show (26 : Int) ≠ 0 by decide)
  have b1 := Int.emod_lt_of_pos k (show (0 : Int) < 26 by decide)
  split
  · exact ⟨by omega, by omega, by omega, by omega, by omega, by omega, by omega, by omega⟩
  · split
    · exact ⟨by omega, by omega, by omega, by omega, by omega, by omega, by omega, by omega⟩
    · split
      · exact ⟨by omega, by omega, by omega, by omega, by omega, by omega, by omega, by omega⟩
      · exact ⟨by omega, by omega, by omega, by omega, by omega, by omega, by omega, by omega⟩
def wordsL (n : Nat) (k : Int) : List Int := (List.range n).map fun (i : Nat) => signOf (wrap64 (k + i))
theorem wordsL_succ (n : Nat) (k : Int) : wordsL (n + 1) k = wordsL n k ++ [signOf (wrap64 (k + n))] := by simp [wordsL, List.range_succ]
theorem wordsL_len (n : Nat) (k : Int) : (wordsL n k).length = n := by simp [wordsL]
theorem wordsL_lets (n : Nat) (k : Int) : Lets (wordsL n k) := by
  intro r hr
  obtain ⟨i, _, rfl⟩ := List.mem_map.1 hr
  exact sign_let _
theorem u8of (x : Int) (n : Nat) (h : x = (n : Int)) : x.toNat.toUInt8 = UInt8.ofNat n := by rw [h]; rfl
theorem encode_txt {r : Int} (h : Rn r) : Utf8.encode r = txt [r] := by
  obtain ⟨h0, h1, h2⟩ := h
  have hv : Utf8.valid r = true := by
    unfold Utf8.valid
    simp
    omega
  obtain ⟨n, rfl⟩ := Int.eq_ofNat_of_zero_le h0
  have ht : txt [(n : Int)] = ⟨(Lib.encodeRune (n : Int)).toArray⟩ := by simp [txt, utf]
  rw [ht]
  unfold Utf8.encode Lib.encodeRune
  simp only [hv, if_true, Int.toNat_natCast]
  by_cases c1 : n < 0x80
  · rw [if_pos c1, Lib.encodeRuneZ_one (by omega) (by omega)]
    simp
  · rw [if_neg c1]
    by_cases c2 : n < 0x800
    · rw [if_pos c2, Lib.encodeRuneZ_two (by omega) (by omega)]
      simp only [List.map_cons, List.map_nil]
      rw [u8of _ (0xC0 + n / 64) (by omega), u8of _ (0x80 + n % 64) (by omega)]
    · rw [if_neg c2]
      by_cases c3 : n < 0x10000
      · rw [if_pos c3, Lib.encodeRuneZ_three (by omega)]
        simp only [List.map_cons, List.map_nil]
        rw [u8of _ (0xE0 + n / 4096) (by omega), u8of _ (0x80 + n / 64 % 64) (by omega), u8of _ (0x80 + n % 64) (by omega)]
      · rw [if_neg c3, Lib.encodeRuneZ_four (by omega) (by omega)]
        simp only [List.map_cons, List.map_nil]
        rw [u8of _ (0xF0 + n / 262144) (by omega), u8of _ (0x80 + n / 4096 % 64) (by omega), u8of _ (0x80 + n / 64 % 64) (by omega), u8of _ (0x80 + n % 64) (by omega)]
theorem txt_size_le (l : List Int) : (txt l).size ≤ 4 * l.length := by rw [txt_size]; exact (utf_len l).2
set_option maxRecDepth 100000 in
set_option maxHeartbeats 4000000 in
theorem words_calls (n : Nat) (k : Int) (hn : n ≤ 48) (w : World) : Calls Tryd.prog 29 #[.int .i64 (n : Int), .int .i64 k] w fun e w' => e = .returned (.string (txt (wordsL n k))) ∧ Drawn0 w w' := by
  go_enter Tryd.func29, Tryd.ntmps29
  go_wp2
  go_loopw [5, 6] (fun s i wr => ∃ j : Nat, j ≤ n ∧ i = .int .i64 (j : Int) ∧ s = .string (txt (wordsL j k)) ∧ Drawn0 w wr) (fun _ i _ => n - (intOf i).toNat)
  case atStart => exact ⟨0, Nat.zero_le _, rfl, rfl, Drawn0.refl w⟩
  case round =>
    obtain ⟨j, hj, rfl, rfl, hD⟩ := hrel
    by_cases hlt : j < n
    · have hs := sign_is (wrap64 (k + j))
      have hsu := wordsL_succ j k
      have hen := encode_txt (sign_let (wrap64 (k + j))).rn
      obtain ⟨r, hr⟩ : ∃ r, r = signOf (wrap64 (k + j)) := ⟨_, rfl⟩
      rw [← hr] at hs hsu hen
      have HS := Lib.hid hs
      have HU := Lib.hid hsu
      have hz1 := txt_size_le (wordsL j k)
      have hz2 := txt_size_le [r]
      rw [wordsL_len] at hz1
      simp only [List.length_singleton] at hz2
      have hb : (((txt (wordsL j k)).size : Int) + ((txt [r]).size : Int)) ≤ 9223372036854775807 := by omega
      clear hs hsu hr hz1 hz2
      go_wp2_with (go_at_call 69; refine (redraftlaw03_sign.calls _ _ _ HS.out).mono ?_; rintro e w1 ⟨rfl, ⟨nd, rfl⟩⟩)
      go_roundw
      case rel => exact ⟨j + 1, hlt, by go_num, by rw [HU.out, txt_append], hD.step nd⟩
      case measure => simp [intOf]; omega
    · have hjn : j = n := by omega
      subst hjn
      clear hlt hj
      go_wp2
      go_ret
      exact ⟨rfl, hD⟩
end Go.Proofs.YteeigokkafcaaaaDoorRope
end
section
namespace Go.Proofs.YteeigokkafcaaaaDoorRope
open Go.RowKit Go.Proofs.YteeigokkafcaaaaDoorW.PrintWords Go.Proofs.YteeigokkafcaaaaDoorW.PrintMore Go.Proofs.YteeigokkafcaaaaDoor.Pr
set_option linter.unusedSimpArgs false
set_option linter.unusedVariables false
def k97 : Kd (Int × Int) := Kd.iso (Kd.pair (Kd.int .i64) (Kd.int .i64)) (fun x : Int × Int => x)
theorem at_T97 {w : World} {A : Option Addr} {ps : List (Int × Int)} (h : Kd.C k97 w A ps.length ps) {k : Nat} (hk : k < ps.length) : ∃ ad, A = some ad ∧ w.cell? (ad.add (k * 2)) = some (.int .i64 ps[k].1) ∧ w.cell? ⟨(ad.add (k * 2)).block, (ad.add (k * 2)).off + 1, none⟩ = some (.int .i64 ps[k].2) := by
  obtain ⟨ad, c, e, hl, hK, hc⟩ := Kd.C_get h (0, 0) (k : Int) (by omega) (by omega)
  have hx : ps.getD (k : Int).toNat (0, 0) = ps[k] := by simp [hk]
  rw [hx] at hK
  obtain ⟨c0, c1, rfl, h0, h1⟩ := hK
  have h0' : c0 = [.int .i64 ps[k].1] := h0
  have h1' : c1 = [.int .i64 ps[k].2] := h1
  subst h0' h1'
  have hs : k97.sz = 2 := rfl
  refine ⟨ad, e, ?_, ?_⟩
  · have := hc 0 _ rfl
    rw [hs] at this
    simpa using this
  · have := hc 1 _ rfl
    rw [hs, Int.toNat_natCast, add_field _ _ _ (by decide)] at this
    exact this
def hidOf (prev : Option Int) (h : Int) : Int := if prev = some (h % 3) then (h % 3 + 1) % 3 else h % 3
def runOf (i : Nat) (prev : Option Int) (p : Int × Int) : List Int × Int := (wordsL (1 + p.1 % 48).toNat (7 * i), hidOf prev p.2)
def runsG (i : Nat) (prev : Option Int) : List (Int × Int) → List (List Int × Int)
  | [] => []
  | p :: ps => runOf i prev p :: runsG (i + 1) (some (hidOf prev p.2)) ps
def runsL (ps : List (Int × Int)) : List (List Int × Int) := runsG 0 none (ps.take 24)
def prevOf (o : List (List Int × Int)) : Option Int := o.getLast?.map (·.2)
theorem prevOf_snoc (o : List (List Int × Int)) (x : List Int × Int) : prevOf (o ++ [x]) = some x.2 := by simp [prevOf]
theorem prevOf_at {o : List (List Int × Int)} {k : Nat} (hk : k + 1 = o.length) : prevOf o = some (o[k]'(by omega)).2 := by
  unfold prevOf
  rw [List.getLast?_eq_getElem?, show o.length - 1 = k by omega, List.getElem?_eq_getElem (by omega)]
  rfl
theorem runsG_at {ps : List (Int × Int)} {k : Nat} (hk : k < ps.length) (i : Nat) (prev : Option Int) : runsG i prev (ps.drop k) = runOf i prev ps[k] :: runsG (i + 1) (some (hidOf prev ps[k].2)) (ps.drop (k + 1)) := by
  rw [List.drop_eq_getElem_cons hk]
  rfl
theorem hidOf_rng (prev : Option Int) (h : Int) : 0 ≤ hidOf prev h ∧ hidOf prev h ≤ 2 := by
  unfold hidOf
  split <;> omega
theorem hidOf_ne (q h : Int) : hidOf (some q) h ≠ q := by
  unfold hidOf
  split
  · rename_i e
    injection e with e
    omega
  · rename_i e
    intro e2
    exact e (by rw [e2])
theorem runsG_one : ∀ (ps : List (Int × Int)) (i : Nat) (prev : Option Int), ∀ x ∈ runsG i prev ps, x.1 ≠ [] ∧ Lets x.1 ∧ 0 ≤ x.2 ∧ x.2 ≤ 1048576 ∧ x.1.length ≤ 48
  | [], _, _, x, hx => by cases hx
  | p :: ps, i, prev, x, hx => by
    rcases List.mem_cons.1 hx with rfl | hx
    · have := hidOf_rng prev p.2
      have hl : (runOf i prev p).1.length = (1 + p.1 % 48).toNat := wordsL_len _ _
      refine ⟨fun e => ?_, wordsL_lets _ _, this.1, by have := this.2; show hidOf prev p.2 ≤ _; omega, by rw [hl]; omega⟩
      rw [e] at hl
      simp at hl
      omega
    · exact runsG_one ps _ _ x hx
theorem runsG_two : ∀ (ps : List (Int × Int)) (i : Nat) (prev : Option Int), (∀ q, prev = some q → ∀ x, (runsG i prev ps)[0]? = some x → x.2 ≠ q) ∧ ∀ j (h : j + 1 < (runsG i prev ps).length), (runsG i prev ps)[j + 1].2 ≠ (runsG i prev ps)[j].2
  | [], _, _ => ⟨by simp [runsG], by simp [runsG]⟩
  | p :: ps, i, prev => by
    have ih := runsG_two ps (i + 1) (some (hidOf prev p.2))
    refine ⟨?_, ?_⟩
    · rintro q rfl x hx
      have : x = runOf i (some q) p := by simpa [runsG] using hx.symm
      rw [this]
      exact hidOf_ne q p.2
    · intro j h
      cases j with
      | zero =>
        have h' : 0 < (runsG (i + 1) (some (hidOf prev p.2)) ps).length := by simpa [runsG] using h
        exact ih.1 _ rfl _ (List.getElem?_eq_getElem h')
      | succ j =>
        have h' : j + 1 < (runsG (i + 1) (some (hidOf prev p.2)) ps).length := by simpa [runsG] using h
        exact ih.2 j h'
theorem runsL_good (ps : List (Int × Int)) : GoodRuns (runsL ps) :=
  ⟨fun x hx => by obtain ⟨h1, h2, h3, h4, _⟩ := runsG_one _ _ _ x hx; exact ⟨h1, h2, h3, h4⟩, (runsG_two _ _ _).2⟩
theorem runsG_len : ∀ (ps : List (Int × Int)) (i : Nat) (prev : Option Int), (runsG i prev ps).length = ps.length
  | [], _, _ => rfl
  | p :: ps, i, prev => by simp [runsG, runsG_len ps]
theorem runsL_len (ps : List (Int × Int)) : (runsL ps).length ≤ 24 := by
  unfold runsL
  rw [runsG_len, List.length_take]
  omega
theorem rcells_bound : ∀ (l : List (List Int × Int)), (∀ x ∈ l, x.1.length ≤ 48) → (rcells l).length ≤ 48 * l.length
  | [], _ => by simp [rcells]
  | x :: l, h => by
    have := rcells_bound l (fun y hy => h y (List.mem_cons_of_mem _ hy))
    have h1 := h x List.mem_cons_self
    simp only [rcells, List.flatMap_cons, List.length_append, List.length_map, List.length_cons] at *
    omega
theorem runsL_cells (ps : List (Int × Int)) : (rcells (runsL ps)).length ≤ 1152 := by
  have h1 := rcells_bound (runsL ps) (fun x hx => (runsG_one _ _ _ x hx).2.2.2.2)
  have := runsL_len ps
  omega
theorem words_int {n : Int} (h0 : 0 ≤ n) (h1 : n ≤ 48) (k : Int) (w : World) : Calls Tryd.prog 29 #[.int .i64 n, .int .i64 k] w fun e w' => e = .returned (.string (txt (wordsL n.toNat k))) ∧ Below w.heap.size w w' := by
  obtain ⟨m, rfl⟩ := Int.eq_ofNat_of_zero_le h0
  exact (words_calls m k (by omega) w).mono fun e w' ⟨he, hd⟩ => ⟨he, hd.below⟩
theorem rest_b {a m : Int} (h0 : 0 < m) (h1 : m ≤ 1152921504606846976) (w : World) : Calls Tryd.prog 28 #[.int .i64 a, .int .i64 m] w fun e w' => e = .returned (.int .i64 (a % m)) ∧ Below w.heap.size w w' :=
  (redraftlaw03_rest.calls a m _ w (rest_is h0 h1)).mono fun e w' ⟨he, hd⟩ => ⟨he, hd.below⟩
theorem info58' : (Tryd.prog.info? 58).map (fun i => (i.zero, i.size, i.bytes)) = some (some (.agg #[.string ByteArray.empty, .int .i64 0]), 2, 24) := by kernel_rfl
def RunsI (w : World) (ps : List (Int × Int)) (v3 v4 : Value) (wr : World) : Prop :=
  ∃ (k : Nat) (o : List (List Int × Int)) (A : Option Addr) (c : Nat), v4 = .int .i64 (k : Int) ∧ k ≤ ps.length ∧ k ≤ 24 ∧ o.length = k ∧ o ++ runsG k (prevOf o) ((ps.take 24).drop k) = runsL ps ∧ v3 = .slice A k c ∧ Kd.R k58 58 wr w.heap.size (fun b => w.heap.size ≤ b) (.slice A k c) (sRuns o) ∧ Below w.heap.size w wr
theorem RunsI.mk {w wr : World} {ps : List (Int × Int)} {v3 : Value} {x4 : Int} (k : Nat) (o : List (List Int × Int)) (h4 : x4 = (k : Int)) (hk : k ≤ ps.length) (hk2 : k ≤ 24) (ho : o.length = k) (hg : o ++ runsG k (prevOf o) ((ps.take 24).drop k) = runsL ps) (hR : Kd.R k58 58 wr w.heap.size (fun b => w.heap.size ≤ b) v3 (sRuns o)) (hB : Below w.heap.size w wr) : RunsI w ps v3 (.int .i64 x4) wr := by
  obtain ⟨A, c, rfl⟩ := Kd.R_slice hR
  have hl : (sRuns o).length = k := by rw [← ho]; simp [sRuns]
  rw [hl] at hR ⊢
  exact ⟨k, o, A, c, by rw [h4], hk, hk2, ho, hg, rfl, hR, hB⟩
theorem runs_next {ps : List (Int × Int)} {k : Nat} {o : List (List Int × Int)} (hk : k < ps.length) (hk2 : k < 24) (ho : o.length = k) (hg : o ++ runsG k (prevOf o) ((ps.take 24).drop k) = runsL ps) : (o ++ [runOf k (prevOf o) ps[k]]) ++ runsG (k + 1) (prevOf (o ++ [runOf k (prevOf o) ps[k]])) ((ps.take 24).drop (k + 1)) = runsL ps := by
  have h1 : k < (ps.take 24).length := by rw [List.length_take]; omega
  rw [runsG_at h1] at hg
  have h2 : (ps.take 24)[k] = ps[k] := by simp
  rw [h2] at hg
  rw [prevOf_snoc, List.append_assoc]
  exact hg
theorem sRuns_snoc (o : List (List Int × Int)) (x : List Int × Int) : sRuns (o ++ [x]) = sRuns o ++ [⟨txt x.1, x.2⟩] := by simp [sRuns]
theorem R_reads_k {o : List (List Int × Int)} {k : Nat} {wr : World} {base : Nat} {ok : Nat → Prop} {A : Option Addr} {c : Nat} (ho : o.length = k) (h : Kd.R k58 58 wr base ok (.slice A k c) (sRuns o)) : Kd.C k58 wr A o.length (sRuns o) := by
  have := (Kd.R_reads' h).2.2
  have hl : (sRuns o).length = o.length := by simp [sRuns]
  rwa [hl] at this
set_option maxRecDepth 100000 in
set_option maxHeartbeats 16000000 in
theorem runs_calls {ps : List (Int × Int)} {w : World} {A : Option Addr} {c : Nat} (hA : Kd.C k97 w A ps.length ps) (hc : ps.length ≤ c) (hm : ps.length ≤ 140737488355328) :
    Calls Tryd.prog 15 #[.slice A ps.length c] w fun e w' => ∃ A' c', e = .returned (.slice A' (runsL ps).length c') ∧ Kd.R k58 58 w' w.heap.size (fun b => w.heap.size ≤ b) (.slice A' (runsL ps).length c') (sRuns (runsL ps)) ∧ Below w.heap.size w w' := by
  go_enter Tryd.func15, Tryd.ntmps15
  go_wp2
  go_loopw [3, 4] (fun v3 v4 wr => RunsI w ps v3 v4 wr) (fun _ i _ => 24 - (intOf i).toNat)
  case atStart => exact RunsI.mk 0 [] rfl (Nat.zero_le _) (Nat.zero_le _) rfl rfl (Kd.R_nil _ _ _ _ _) (Below.refl _ _)
  case round =>
    obtain ⟨k, o, A', c', rfl, hk, hk2, ho, hg, rfl, hR, hB⟩ := hrel
    by_cases hend : k < ps.length ∧ k < 24
    · obtain ⟨hlt, h24⟩ := hend
      obtain ⟨ad, hAd, x0, x1⟩ := at_T97 hA hlt
      subst hAd
      have y0 := pw_cell_below hB x0
      have y1 := pw_cell_below hB x1
      have hnext := runs_next hlt h24 ho hg
      obtain ⟨pp, hpp⟩ : ∃ pp, pp = ps[k] := ⟨_, rfl⟩
      rw [← hpp] at y0 y1 hnext
      clear hpp x0 x1
      have t1 : decide (k < ps.length) = true := decide_eq_true hlt
      have t2 : decide ((k : Int) < 24) = true := decide_eq_true (by omega)
      have t3 : (k : Int) < 24 := by omega
      have n1 : 0 ≤ pp.1 % 48 ∧ pp.1 % 48 ≤ 47 := by omega
      obtain ⟨n10, n11⟩ := n1
      have m1 : 0 ≤ pp.2 % 3 ∧ pp.2 % 3 ≤ 2 := by omega
      obtain ⟨m10, m11⟩ := m1
      have HN := Lib.hid hnext
      have HO := Lib.hid ho
      have hw0 : w.heap.size ≤ wr.heap.size := hB.size
      clear hnext hg hk hk2
      by_cases hk0 : k = 0
      · have d0 : decide (0 < k) = false := decide_eq_false (by omega)
        have hpr : prevOf o = none := by
          have : o = [] := List.eq_nil_of_length_eq_zero (by omega)
          rw [this]; rfl
        have hh : hidOf (prevOf o) pp.2 = pp.2 % 3 := by rw [hpr]; rfl
        have HH := Lib.hid hh
        clear hk0 hpr hh ho
        have tok : True := trivial
        have tok2 : True := trivial
        have HL : Hid (((sRuns o).length + 1) * 24 ≤ 140737488355328) := Lib.hid (by rw [show (sRuns o).length = o.length by simp [sRuns], HO.out]; omega)
        go_wp2_with (first
          | (go_at_call 28; clear tok; refine (rest_b (a := pp.2) (m := 3) (by decide) (by decide) _).mono ?_; rintro e w1 ⟨rfl, hb1⟩; have y2 := pw_cell_below hb1 y0; have y3 := pw_cell_below hb1 y1)
          | (go_at_call 28; refine (rest_b (a := pp.1) (m := 48) (by decide) (by decide) _).mono ?_; rintro e w2 ⟨rfl, hb2⟩)
          | (go_at_call 29; refine (words_int (n := 1 + pp.1 % 48) (by omega) (by omega) (7 * (k : Int)) _).mono ?_; rintro e w3 ⟨rfl, hb3⟩; have hb4 := hb1.trans ((hb2.trans (hb3.mono hb2.size)).mono hb1.size); have hR4 := Kd.R_below hR hb4; have hB4 := hB.trans (hb4.mono hB.size))
          | ((with_reducible refine gate_builtin (b := .append) (xs := #[.tmp 37, .tmp 50]) rfl ?_); at_builtin; refine Kd.R_append k58 (w0 := w) w.heap.size rfl (.tmp 37) (.tmp 50) 23 58 (.agg #[.string ByteArray.empty, .int .i64 0]) 24 rfl Tryd.underlying23 info58' rfl (by decide) (by decide) _ (sRuns o) ⟨txt (wordsL (1 + pp.1 % 48).toNat (7 * (k : Int))), pp.2 % 3⟩ [.string (txt (wordsL (1 + pp.1 % 48).toNat (7 * (k : Int)))), .int .i64 (pp.2 % 3)] (fun b => w.heap.size ≤ b) (fun _ => False) rfl rfl ?aP (fun _ h => h.elim) ?aF hR4 hB4 hB4.size HL.out ?_; (case aP => exact k58_mkM _ _ _ ⟨_, _⟩); (case aF => exact fun k hk => Nat.le_trans hB4.size hk); intro v5 w5 hR5 hB5 hg5 hat5))
        have hR6 : Kd.R k58 58 w5 w.heap.size (fun b => w.heap.size ≤ b) v5 (sRuns (o ++ [runOf k (prevOf o) pp])) := by
          rw [sRuns_snoc]; unfold runOf; rw [HH.out]; exact hR5
        go_wp2
        go_roundw
        case rel => exact RunsI.mk (k + 1) (o ++ [runOf k (prevOf o) pp]) rfl hlt h24 (by rw [List.length_append, HO.out]; rfl) HN.out hR6 hB5
        case measure => simp [intOf]; omega
      · have d0 : decide (0 < k) = true := decide_eq_true (by omega)
        have hl1 : k - 1 < o.length := by omega
        have hp1 := prevOf_at (o := o) (k := k - 1) (by omega)
        obtain ⟨ad', hAd', xx, x3⟩ := run_cell (R_reads_k ho hR) hl1
        clear xx
        subst hAd'
        obtain ⟨q, hq⟩ : ∃ q, q = (o[k - 1]'hl1).2 := ⟨_, rfl⟩
        have hq' : (o[k - 1]'hl1).2 = q := hq.symm
        rw [hq'] at x3 hp1
        clear hq hq'
        obtain ⟨j, hj⟩ : ∃ j : Int, (k : Int) - 1 = j := ⟨_, rfl⟩
        have wk : IntKind.i64.wrap ((k : Int) - 1) = j := ((IntWalk.i64_left _).trans (w64 (by omega) (by omega))).trans hj
        have kn : k - 1 = j.toNat := by omega
        rw [kn] at x3
        have p0 : (0 ≤ j) = True := eq_true (by omega)
        have p1 : (j < (k : Int)) = True := eq_true (by omega)
        have hh : hidOf (prevOf o) pp.2 = if q = pp.2 % 3 then (pp.2 + 1) % 3 else pp.2 % 3 := by
          rw [hp1]; unfold hidOf
          by_cases e : q = pp.2 % 3
          · rw [if_pos e, if_pos (by rw [e])]; omega
          · rw [if_neg e, if_neg (by intro h; injection h with h; exact e h)]
        clear hp1 kn hl1 hk0 hj ho
        by_cases cq : q = pp.2 % 3
        · rw [if_pos cq] at hh
          have dq : (q == pp.2 % 3) = true := beq_iff_eq.mpr cq
          have HH := Lib.hid hh
          clear hh cq
          have tok : True := trivial
          have tok2 : True := trivial
          have HL : Hid (((sRuns o).length + 1) * 24 ≤ 140737488355328) := Lib.hid (by rw [show (sRuns o).length = o.length by simp [sRuns], HO.out]; omega)
          go_wp2_with (first
            | (go_at_call 28; clear tok; refine (rest_b (a := pp.2) (m := 3) (by decide) (by decide) _).mono ?_; rintro e w1 ⟨rfl, hb1⟩; have y2 := pw_cell_below hb1 y0; have y3 := pw_cell_below hb1 y1; have x4 := pw_cell_below hb1 x3)
            | (go_at_call 28; clear tok2; refine (rest_b (a := pp.2 % 3 + 1) (m := 3) (by decide) (by decide) _).mono ?_; rintro e w2a ⟨rfl, hb2a⟩; have y4 := pw_cell_below hb2a y2)
            | (go_at_call 28; refine (rest_b (a := pp.1) (m := 48) (by decide) (by decide) _).mono ?_; rintro e w2 ⟨rfl, hb2b⟩; have hb2 := hb2a.trans (hb2b.mono hb2a.size))
            | (go_at_call 29; refine (words_int (n := 1 + pp.1 % 48) (by omega) (by omega) (7 * (k : Int)) _).mono ?_; rintro e w3 ⟨rfl, hb3⟩; have hb4 := hb1.trans ((hb2.trans (hb3.mono hb2.size)).mono hb1.size); have hR4 := Kd.R_below hR hb4; have hB4 := hB.trans (hb4.mono hB.size))
            | ((with_reducible refine gate_builtin (b := .append) (xs := #[.tmp 37, .tmp 50]) rfl ?_); at_builtin; refine Kd.R_append k58 (w0 := w) w.heap.size rfl (.tmp 37) (.tmp 50) 23 58 (.agg #[.string ByteArray.empty, .int .i64 0]) 24 rfl Tryd.underlying23 info58' rfl (by decide) (by decide) _ (sRuns o) ⟨txt (wordsL (1 + pp.1 % 48).toNat (7 * (k : Int))), (pp.2 + 1) % 3⟩ [.string (txt (wordsL (1 + pp.1 % 48).toNat (7 * (k : Int)))), .int .i64 ((pp.2 + 1) % 3)] (fun b => w.heap.size ≤ b) (fun _ => False) rfl rfl ?aP (fun _ h => h.elim) ?aF hR4 hB4 hB4.size HL.out ?_; (case aP => exact k58_mkM _ _ _ ⟨_, _⟩); (case aF => exact fun k hk => Nat.le_trans hB4.size hk); intro v5 w5 hR5 hB5 hg5 hat5))
          have hR6 : Kd.R k58 58 w5 w.heap.size (fun b => w.heap.size ≤ b) v5 (sRuns (o ++ [runOf k (prevOf o) pp])) := by
            rw [sRuns_snoc]; unfold runOf; rw [HH.out]; exact hR5
          go_wp2
          go_roundw
          case rel => exact RunsI.mk (k + 1) (o ++ [runOf k (prevOf o) pp]) rfl hlt h24 (by rw [List.length_append, HO.out]; rfl) HN.out hR6 hB5
          case measure => simp [intOf]; omega
        · rw [if_neg cq] at hh
          have dq : (q == pp.2 % 3) = false := beq_eq_false_iff_ne.mpr cq
          have HH := Lib.hid hh
          clear hh cq
          have tok : True := trivial
          have tok2 : True := trivial
          have HL : Hid (((sRuns o).length + 1) * 24 ≤ 140737488355328) := Lib.hid (by rw [show (sRuns o).length = o.length by simp [sRuns], HO.out]; omega)
          go_wp2_with (first
            | (go_at_call 28; clear tok; refine (rest_b (a := pp.2) (m := 3) (by decide) (by decide) _).mono ?_; rintro e w1 ⟨rfl, hb1⟩; have y2 := pw_cell_below hb1 y0; have y3 := pw_cell_below hb1 y1; have x4 := pw_cell_below hb1 x3)
            | (go_at_call 28; refine (rest_b (a := pp.1) (m := 48) (by decide) (by decide) _).mono ?_; rintro e w2 ⟨rfl, hb2⟩)
            | (go_at_call 29; refine (words_int (n := 1 + pp.1 % 48) (by omega) (by omega) (7 * (k : Int)) _).mono ?_; rintro e w3 ⟨rfl, hb3⟩; have hb4 := hb1.trans ((hb2.trans (hb3.mono hb2.size)).mono hb1.size); have hR4 := Kd.R_below hR hb4; have hB4 := hB.trans (hb4.mono hB.size))
            | ((with_reducible refine gate_builtin (b := .append) (xs := #[.tmp 37, .tmp 50]) rfl ?_); at_builtin; refine Kd.R_append k58 (w0 := w) w.heap.size rfl (.tmp 37) (.tmp 50) 23 58 (.agg #[.string ByteArray.empty, .int .i64 0]) 24 rfl Tryd.underlying23 info58' rfl (by decide) (by decide) _ (sRuns o) ⟨txt (wordsL (1 + pp.1 % 48).toNat (7 * (k : Int))), pp.2 % 3⟩ [.string (txt (wordsL (1 + pp.1 % 48).toNat (7 * (k : Int)))), .int .i64 (pp.2 % 3)] (fun b => w.heap.size ≤ b) (fun _ => False) rfl rfl ?aP (fun _ h => h.elim) ?aF hR4 hB4 hB4.size HL.out ?_; (case aP => exact k58_mkM _ _ _ ⟨_, _⟩); (case aF => exact fun k hk => Nat.le_trans hB4.size hk); intro v5 w5 hR5 hB5 hg5 hat5))
          have hR6 : Kd.R k58 58 w5 w.heap.size (fun b => w.heap.size ≤ b) v5 (sRuns (o ++ [runOf k (prevOf o) pp])) := by
            rw [sRuns_snoc]; unfold runOf; rw [HH.out]; exact hR5
          go_wp2
          go_roundw
          case rel => exact RunsI.mk (k + 1) (o ++ [runOf k (prevOf o) pp]) rfl hlt h24 (by rw [List.length_append, HO.out]; rfl) HN.out hR6 hB5
          case measure => simp [intOf]; omega
    · by_cases hlt : k < ps.length
      · have h24 : k = 24 := by omega
        have e1 : o = runsL ps := by
          rw [← hg, show (ps.take 24).drop k = [] from List.drop_eq_nil_of_le (by rw [List.length_take]; omega)]
          simp [runsG]
        have hl : (runsL ps).length = k := by rw [← e1, ho]
        rw [e1] at hR
        have HL := Lib.hid hl
        have t1 : decide (k < ps.length) = true := decide_eq_true hlt
        have t2 : decide ((k : Int) < 24) = false := decide_eq_false (by omega)
        clear hg e1 ho hl hend hk hk2 h24
        go_wp2
        go_ret
        exact ⟨A', c', by rw [HL.out]; rfl, by rw [HL.out]; exact hR, hB⟩
      · have e1 : o = runsL ps := by
          rw [← hg, show (ps.take 24).drop k = [] from List.drop_eq_nil_of_le (by rw [List.length_take]; omega)]
          simp [runsG]
        have hl : (runsL ps).length = k := by rw [← e1, ho]
        rw [e1] at hR
        have HL := Lib.hid hl
        have t1 : decide (k < ps.length) = false := decide_eq_false hlt
        clear hg e1 ho hl hend hk hk2
        go_wp2
        go_ret
        exact ⟨A', c', by rw [HL.out]; rfl, by rw [HL.out]; exact hR, hB⟩
end Go.Proofs.YteeigokkafcaaaaDoorRope
end
section
namespace Go.Proofs.YteeigokkafcaaaaDoorRope
open Go.RowKit Go.Proofs.YteeigokkafcaaaaDoorW.PrintWords Go.Proofs.YteeigokkafcaaaaDoorW.PrintMore Go.Proofs.YteeigokkafcaaaaDoor.Pr
set_option linter.unusedSimpArgs false
set_option linter.unusedVariables false
def sCells (cs : List (Int × Int)) : List S36 := cs.map fun c => ⟨c.1, c.2⟩
theorem sCells_len (cs : List (Int × Int)) : (sCells cs).length = cs.length := by simp [sCells]
theorem sCells_snoc (cs : List (Int × Int)) (c h : Int) : sCells (cs ++ [(c, h)]) = sCells cs ++ [⟨c, h⟩] := by simp [sCells]
def pieceTo (pre : List (Int × Int)) (rs : List Int) (h : Int) (j : Nat) : List (Int × Int) := pre ++ (rs.take j).map fun c => (c, h)
theorem pieceTo_zero (pre : List (Int × Int)) (rs : List Int) (h : Int) : pieceTo pre rs h 0 = pre := by simp [pieceTo]
theorem pieceTo_succ {pre : List (Int × Int)} {rs : List Int} {h : Int} {j : Nat} {r : Int} (hj : j < rs.length) (hr : r = rs[j]) : pieceTo pre rs h (j + 1) = pieceTo pre rs h j ++ [(r, h)] := by
  unfold pieceTo
  rw [take_snoc' hj, List.map_append, ← hr, ← List.append_assoc]
  rfl
theorem pieceTo_len (pre : List (Int × Int)) (rs : List Int) (h : Int) (j : Nat) : (pieceTo pre rs h j).length ≤ pre.length + rs.length := by
  simp [pieceTo]
  omega
theorem pieceTo_all {l : List (List Int × Int)} {k : Nat} (hk : k < l.length) : pieceTo (rcells (l.take k)) l[k].1 l[k].2 l[k].1.length = rcells (l.take (k + 1)) := by
  rw [List.take_succ_eq_append_getElem hk, rcells_append, rcells_one]
  simp [pieceTo]
set_option maxRecDepth 100000 in
set_option maxHeartbeats 16000000 in
theorem cells_calls {l : List (List Int × Int)} (hl : ∀ x ∈ l, Lets x.1) (hlen : (rcells l).length ≤ 1048576) (hll : l.length ≤ 1048576) {w : World} {A : Option Addr} {c : Nat} (hA : Kd.C k58 w A l.length (sRuns l)) :
    Calls Tryd.prog 16 #[.slice A l.length c] w fun e w' => ∃ A' c', e = .returned (.slice A' (rcells l).length c') ∧ Kd.R k36 36 w' w.heap.size (fun b => w.heap.size ≤ b) (.slice A' (rcells l).length c') (sCells (rcells l)) ∧ Below w.heap.size w w' := by
  have HLEN := Lib.hid hlen
  clear hlen
  go_enter Tryd.func16, Tryd.ntmps16
  go_wp2
  go_loopw [3, 4] (fun v3 i wr => ∃ k : Nat, k ≤ l.length ∧ i = .int .i64 (k : Int) ∧ Kd.R k36 36 wr w.heap.size (fun b => w.heap.size ≤ b) v3 (sCells (rcells (l.take k))) ∧ Below w.heap.size w wr) (fun _ i _ => l.length - (intOf i).toNat)
  case atStart => exact ⟨0, Nat.zero_le _, rfl, Kd.R_nil _ _ _ _ _, Below.refl _ _⟩
  case round =>
    obtain ⟨k, hkl, rfl, hR, hB⟩ := hrel
    obtain ⟨wo, hwo⟩ : ∃ wo : World, wo = wr := ⟨_, rfl⟩
    subst hwo
    by_cases hlt : k < l.length
    · obtain ⟨ad, hAd, x0, x1⟩ := run_cell hA hlt
      subst hAd
      have y0 := pw_cell_below hB x0
      have hls := hl _ (List.getElem_mem hlt)
      have htk := rcells_take hlt
      have hle := rcells_le (l := l) (k + 1)
      have hpa := pieceTo_all hlt
      obtain ⟨pre, hpre⟩ : ∃ pre, pre = rcells (l.take k) := ⟨_, rfl⟩
      obtain ⟨rs, hrs⟩ : ∃ rs, rs = l[k].1 := ⟨_, rfl⟩
      obtain ⟨hd, hhd⟩ : ∃ hd, hd = l[k].2 := ⟨_, rfl⟩
      rw [← hpre] at hR htk hpa
      rw [← hrs] at y0 hls htk hpa
      rw [← hhd] at x1 hpa
      have hbd : pre.length + rs.length ≤ 1048576 := by have := HLEN.out; omega
      have HBD := Lib.hid hbd
      have HPA := Lib.hid hpa
      have kb : (k : Int) ≤ 1048576 := by omega
      clear x0 htk hle hpre hrs hhd hbd hpa
      have hk0 := iter_start wo rs
      have hB0 : Below w.heap.size w (wo.iter (txt rs) 0) := hB.alloc hB.size _
      have hR0 : Kd.R k36 36 (wo.iter (txt rs) 0) w.heap.size (fun b => w.heap.size ≤ b ∧ b ≠ wo.heap.size) _ (sCells pre) := Kd.R_mono (Kd.R_below (Kd.R_bound hR) ((Below.refl _ wo).alloc (Nat.le_refl _) _)) (fun b hb => ⟨hb.1, by have := hb.2.2.1; omega⟩)
      go_wp2
      go_loopw [3] (fun v3 wx => ∃ j : Nat, j ≤ rs.length ∧ IterAt wx wo.heap.size rs j ∧ Kd.R k36 36 wx w.heap.size (fun b => w.heap.size ≤ b ∧ b ≠ wo.heap.size) v3 (sCells (pieceTo pre rs hd j)) ∧ Below w.heap.size w wx) (fun _ wx => leftOf wx wo.heap.size rs)
      case atStart => exact ⟨0, Nat.zero_le _, hk0, by rw [pieceTo_zero]; exact hR0, hB0⟩
      case round =>
        obtain ⟨j, hjl, hk, hRj, hBj⟩ := hrel
        clear hk0 hB0 hR0
        by_cases hlj : j < rs.length
        · obtain ⟨W1, p, r, hnext, ⟨hx, hr⟩, hp, hi1, ho1, hs1, hbl1⟩ := next_txt (P := Tryd.prog) hls.rns hk hlj
          have hR1 : Kd.R k36 36 W1 w.heap.size (fun b => w.heap.size ≤ b ∧ b ≠ wo.heap.size) _ (sCells (pieceTo pre rs hd j)) := Kd.R_step hRj (fun b hb _ => ho1 b hb.2)
          have hB1 := hbl1 hBj hB.size
          have x2 := pw_cell_below hB1 x1
          have hz1 : wo.heap.size < W1.heap.size := IterAt.below.new_lt' hi1
          have hps := pieceTo_succ (pre := pre) (h := hd) hlj hr
          have hpl := pieceTo_len pre rs hd j
          have HK := Lib.hid hk
          have HI := Lib.hid hi1
          have HPS := Lib.hid hps
          have HL : Hid (((sCells (pieceTo pre rs hd j)).length + 1) * 16 ≤ 140737488355328) := Lib.hid (by rw [sCells_len]; have := HBD.out; omega)
          clear hk hp ho1 hRj hBj hi1 hr hs1 hbl1 hps hpl
          go_wp2_with ((with_reducible refine gate_builtin (b := .append) (xs := #[.tmp 22, .tmp 30]) rfl ?_); at_builtin; refine Kd.R_append k36 (w0 := w) w.heap.size rfl (.tmp 22) (.tmp 30) 25 36 (.agg #[.int .i32 0, .int .i64 0]) 16 rfl Tryd.underlying25 info36 rfl (by decide) (by decide) _ (sCells (pieceTo pre rs hd j)) ⟨r, hd⟩ [.int .i32 r, .int .i64 hd] (fun b => w.heap.size ≤ b ∧ b ≠ wo.heap.size) (fun _ => False) rfl rfl ?aP (fun _ h => h.elim) ?aF hR1 hB1 hB1.size HL.out ?_; (case aP => exact k36_mkM _ _ _ ⟨_, _⟩); (case aF => exact fun b hb => ⟨Nat.le_trans hB1.size hb, by omega⟩); intro v1 w1 hR2 hB2 hg2 hat2)
          have hI2 : IterAt w1 wo.heap.size rs (j + 1) := HI.out.grown hg2 (fun e => (hR1.1 _ e.symm).2 rfl)
          have hR3 : Kd.R k36 36 w1 w.heap.size (fun b => w.heap.size ≤ b ∧ b ≠ wo.heap.size) v1 (sCells (pieceTo pre rs hd (j + 1))) := by rw [HPS.out, sCells_snoc]; exact hR2
          have hm := left_less HK.out hI2 hlj
          clear hR1 hR2 hB1 hz1
          go_wp2
          go_roundw
          case rel => exact ⟨j + 1, hlj, hI2, hR3, hB2⟩
          case measure => exact hm
        · have hnext := fun ty => next_txt_end (P := Tryd.prog) hk (by omega) ty
          have hj2 : j = rs.length := by omega
          subst hj2
          rw [HPA.out] at hRj
          clear hlj hjl
          go_wp2
          go_roundw
          case rel => exact ⟨k + 1, hlt, by go_num, Kd.R_mono hRj (fun b hb => hb.1), hBj⟩
          case measure => simp [intOf]; omega
    · have hkl2 : k = l.length := by omega
      subst hkl2
      rw [List.take_length] at hR
      obtain ⟨A', c', hv⟩ := Kd.R_slice hR
      rw [sCells_len] at hv
      subst hv
      clear hlt hkl
      go_wp2
      go_ret
      exact ⟨A', c', rfl, hR, hB⟩
end Go.Proofs.YteeigokkafcaaaaDoorRope
end
section
namespace Go.Proofs.YteeigokkafcaaaaDoorRope
open Go.RowKit Go.Proofs.YteeigokkafcaaaaDoorW.PrintWords Go.Proofs.YteeigokkafcaaaaDoorW.PrintMore Go.Proofs.YteeigokkafcaaaaDoor.Pr
set_option linter.unusedSimpArgs false
set_option linter.unusedVariables false
theorem rd_sCells {cs : List (Int × Int)} {i : Nat} (h : i < cs.length) : rd_T36 (sCells cs) (i : Int) = ⟨cs[i].1, cs[i].2⟩ := by
  simp [rd_T36, sCells, h]
end Go.Proofs.YteeigokkafcaaaaDoorRope
end
section
namespace Go.Proofs.YteeigokkafcaaaaDoor.Pr
open Go.RowKit Go.Proofs.YteeigokkafcaaaaDoorW.PrintWords Go.Proofs.YteeigokkafcaaaaDoorW.PrintLast Go.Proofs.YteeigokkafcaaaaDoorW.PrintMore
attribute [local go_sem] max2_int min2_int max_two min_two max_three min_three max_four min_four
set_option linter.unusedVariables false
set_option linter.unusedSimpArgs false
mutual
def span_Check.l0 : Nat → List (S133) → List (S133) → Int → Int → Option (Int × Int)
 | 0, _, _, _, _ => none
 | k + 1, x0, x9, x10, x11 => if x11 < x10 then (if 0 ≤ x11 then (if x11 < (x9.length : Int) then (if ((rd_T133 x9 x11).f0) < 0 then (span_Check.j1 k x0 x11 x9 x10 x11 true ((rd_T133 x9 x11).f0) ((rd_T133 x9 x11).f1)) else (if ((rd_T133 x9 x11).f1) > 1048576 then (span_Check.j1 k x0 x11 x9 x10 x11 true ((rd_T133 x9 x11).f0) ((rd_T133 x9 x11).f1)) else (span_Check.j1 k x0 x11 x9 x10 x11 (decide (((rd_T133 x9 x11).f0) ≥ ((rd_T133 x9 x11).f1))) ((rd_T133 x9 x11).f0) ((rd_T133 x9 x11).f1)))) else (none)) else (none)) else (some (0, 0))
def span_Check.j1 : Nat → List (S133) → Int → List (S133) → Int → Int → Bool → Int → Int → Option (Int × Int)
 | 0, _, _, _, _, _, _, _, _ => none
 | k + 1, x0, x4, x9, x10, x11, x30, x149000, x149001 => if x30 = true then (some (x4, 20)) else (if x4 > 0 then (if 0 ≤ (wrap64 (x4 - 1)) then (if (wrap64 (x4 - 1)) < (x0.length : Int) then (if x149000 ≤ ((rd_T133 x0 (wrap64 (x4 - 1))).f1) then (some (x4, 22)) else (span_Check.l0 k x0 x9 x10 (wrap64 (x11 + 1)))) else (none)) else (none)) else (span_Check.l0 k x0 x9 x10 (wrap64 (x11 + 1))))
end
def span_Check.f (k : Nat) (l0 : List (S133)) : Option (Int × Int) := if (l0.length : Int) > 32768 then (some (32768, 21)) else (span_Check.l0 k l0 l0 (l0.length : Int) 0)
theorem span_Check.mono_l : ∀ k, (∀ y0 y1 y2 y3, LeO (span_Check.l0 k y0 y1 y2 y3) (span_Check.l0 (k + 1) y0 y1 y2 y3)) ∧ (∀ y0 y1 y2 y3 y4 y5 y6 y7, LeO (span_Check.j1 k y0 y1 y2 y3 y4 y5 y6 y7) (span_Check.j1 (k + 1) y0 y1 y2 y3 y4 y5 y6 y7))
 | 0 => ⟨fun _ _ _ _ r h => by simp [span_Check.l0] at h, fun _ _ _ _ _ _ _ _ r h => by simp [span_Check.j1] at h⟩
 | k + 1 => by
  obtain ⟨ih0, ih1⟩ := span_Check.mono_l k
  refine ⟨?_, ?_⟩
  ·intro y0 y1 y2 y3
   unfold span_Check.l0
   repeat' first
   | (with_reducible exact ih0 _ _ _ _)
   | (with_reducible exact ih1 _ _ _ _ _ _ _ _)
   | (with_reducible exact LeO.refl _)
   | (with_reducible exact LeO.none _)
   | (with_reducible refine LeO.ite ?_ ?_)
   | (with_reducible refine LeO.bind ?_ (fun _ => ?_))
   | exact ih0 _ _ _ _
   | exact ih1 _ _ _ _ _ _ _ _
   | exact LeO.none _
   | refine LeO.ite ?_ ?_
   | refine LeO.bind ?_ (fun _ => ?_)
  ·intro y0 y1 y2 y3 y4 y5 y6 y7
   unfold span_Check.j1
   repeat' first
   | (with_reducible exact ih0 _ _ _ _)
   | (with_reducible exact ih1 _ _ _ _ _ _ _ _)
   | (with_reducible exact LeO.refl _)
   | (with_reducible exact LeO.none _)
   | (with_reducible refine LeO.ite ?_ ?_)
   | (with_reducible refine LeO.bind ?_ (fun _ => ?_))
   | exact ih0 _ _ _ _
   | exact ih1 _ _ _ _ _ _ _ _
   | exact LeO.none _
   | refine LeO.ite ?_ ?_
   | refine LeO.bind ?_ (fun _ => ?_)
theorem span_Check.mono : ∀ a0 k, LeO (span_Check.f k a0) (span_Check.f (k + 1) a0) := by
 intro a0 k
 obtain ⟨ih0, ih1⟩ := span_Check.mono_l k
 unfold span_Check.f
 repeat' first
   | (with_reducible exact ih0 _ _ _ _)
   | (with_reducible exact ih1 _ _ _ _ _ _ _ _)
   | (with_reducible exact LeO.refl _)
   | (with_reducible exact LeO.none _)
   | (with_reducible refine LeO.ite ?_ ?_)
   | (with_reducible refine LeO.bind ?_ (fun _ => ?_))
   | exact ih0 _ _ _ _
   | exact ih1 _ _ _ _ _ _ _ _
   | exact LeO.none _
   | refine LeO.ite ?_ ?_
   | refine LeO.bind ?_ (fun _ => ?_)
set_option maxHeartbeats 8000000 in
set_option maxRecDepth 100000 in
theorem span_Check.calls (k : Nat) (A0 : Option Addr) (c0 : Nat) (l0 : List (S133)) (r1 : Int) (r2 : Int) (w : World) (hr0 : Kd.C k133 w A0 l0.length l0) (hc0 : l0.length ≤ c0) (h : span_Check.f k l0 = some (r1, r2)) :
  Calls Tryd.prog 37 #[.slice A0 l0.length c0] w fun e w' => e = .returned (.tuple #[.int .i64 r1, .int .i64 r2]) ∧ Below w.heap.size w w' := by
 have hu133 := Tryd.underlying133
 have HR0 := Aside0.mk hr0
 have HC0 := Aside0.mk hc0
 clear hr0 hc0
 have HB := Aside0.mk (Below.refl w.heap.size w)
 have H : (if (l0.length : Int) > 32768 then (some (32768, 21)) else (span_Check.l0 k l0 l0 (l0.length : Int) 0)) = some (r1, r2) := h
 clear h
 by_cases c2 : (l0.length : Int) > 32768
 ·rw [if_pos c2] at H
  have c2b0 : decide (32768 < (l0.length : Int)) = true := decide_eq_true c2
  have c2b1 : decide (32768 < l0.length) = true := decide_eq_true (by omega)
  clear c2
  simp only [Option.some.injEq, Prod.mk.injEq] at H
  obtain ⟨rfl, rfl⟩ := H
  go_enter Tryd.func37, Tryd.ntmps37
  go_wp2
  repeat (go_quiet (fail); try go_wp2)
  go_ret2
  exact ⟨by first | rfl | (simp [errW_none, errW_some] <;> rfl) | (simp [*, errW_none, errW_some] <;> rfl), by repeat (first | (with_reducible first | exact HB.out | apply below_alloc | apply pw_below_drewN | apply below_drew1) | exact HB.out)⟩
 ·rw [if_neg c2] at H
  have c2b0 : decide (32768 < (l0.length : Int)) = false := decide_eq_false c2
  have c2b1 : decide (32768 < l0.length) = false := decide_eq_false (by omega)
  clear c2
  have H' := Aside0.mk H
  clear H
  go_enter Tryd.func37, Tryd.ntmps37
  go_wp2
  repeat (go_quiet (fail); try go_wp2)
  go_loopg [11] k (fun kq v11 w' => ∃ (x11_1 : Int), v11 = .int .i64 x11_1 ∧ Aside0 (span_Check.l0 kq l0 l0 (l0.length : Int) x11_1 = some (r1, r2)) ∧ Aside0 (kq ≤ k) ∧ Aside0 (Below w.heap.size w w'))
  case atStart => exact ⟨(0), (by first | rfl | (simp; done) | (simp [*]; done)), H', ⟨Nat.le_refl _⟩, ⟨by repeat (first | (with_reducible first | exact HB.out | apply below_alloc | apply pw_below_drewN | apply below_drew1) | exact HB.out)⟩⟩
  case round =>
   clear H'
   try clear c2
   try clear c2b0
   try clear c2b1
   try clear p2
   obtain ⟨x11_1, rfl, HA, HK1, HB⟩ := hrel
   cases gk with
   | zero => exact absurd HA.out (by simp [span_Check.l0])
   | succ k1 =>
    have H := HA.out
    clear HA
    simp only [span_Check.l0] at H
    by_cases c3 : x11_1 < (l0.length : Int)
    ·rw [if_pos c3] at H
     have c3b0 : decide (x11_1 < (l0.length : Int)) = true := decide_eq_true c3
     clear c3
     by_cases c4 : 0 ≤ x11_1
     ·rw [if_pos c4] at H
      have c4b0 : decide (0 ≤ x11_1) = true := decide_eq_true c4
      clear c4
      by_cases c5 : x11_1 < (l0.length : Int)
      ·rw [if_pos c5] at H
       have c5b0 : decide (x11_1 < (l0.length : Int)) = true := decide_eq_true c5
       clear c5
       have HC6 := Aside0.mk H
       clear H
       have p147 : 0 ≤ (x11_1 : Int) := of_decide_eq_true (by first | (with_reducible assumption) | assumption)
       have q147 : x11_1 < (l0.length : Int) := of_decide_eq_true (by first | (with_reducible assumption) | assumption)
       obtain ⟨ad147, e147, hx147_0, hx147_1⟩ := at_T133 HR0.out x11_1 p147 q147
       cases e147
       replace hx147_0 := (HB.out.cell (World.block_lt_of_cell? w _ hx147_0)).trans hx147_0
       replace hx147_1 := (HB.out.cell (World.block_lt_of_cell? w _ hx147_1)).trans hx147_1
       replace p147 := eq_true p147
       replace q147 := eq_true q147
       go_upto_region 6 with (first | ((with_reducible refine gate_dst (N := 5) rfl ?_); refine box_event ?hg (N := 5) ?hd (cs := #[.int .i64 0, .int .i64 0]) (t := 133) ?hr ?_; (case hd => rfl); (case hg => rfl); (case hr => first | (go_simp; done) | (go_simp; rfl)); intro gb148 hg w7 hbox hb; have n0_ := Aside0.mk (below_step (by repeat (first | (with_reducible first | exact HB.out | apply below_alloc | apply pw_below_drewN | apply below_drew1) | exact HB.out)) hb); have n1_ := Aside0.mk (hbox); have n2_ := Aside0.mk ((by rw [hg]; exact (below_size (by repeat (first | (with_reducible first | exact HB.out | apply below_alloc | apply pw_below_drewN | apply below_drew1) | exact HB.out))) : w.heap.size ≤ gb148)); have n3_ := Aside0.mk ((by rw [hg]; exact (below_size (by repeat (first | (with_reducible first | exact HB.out | apply below_alloc | apply pw_below_drewN | apply below_drew1) | exact HB.out))) : w.heap.size ≤ gb148)); clear HB; have HB := n0_; have BK148 := n1_; have GW148 := n2_; have GE148 := n3_; clear n0_ n1_ n2_ n3_; clear hb hbox hg; have hcz8_0 : w7.cell? ⟨gb148, 0, none⟩ = some (.int .i64 0) := (blk_cell BK148.out 0).trans rfl; have hcz8_1 : w7.cell? ⟨gb148, 1, none⟩ = some (.int .i64 0) := (blk_cell BK148.out 1).trans rfl; have hfz8_0 := blk_frozen BK148.out 0; have hfz8_1 := blk_frozen BK148.out 1))
       repeat (go_quiet (first | ((with_reducible refine gate_dst (N := 5) rfl ?_); refine box_event ?hg (N := 5) ?hd (cs := #[.int .i64 0, .int .i64 0]) (t := 133) ?hr ?_; (case hd => rfl); (case hg => rfl); (case hr => first | (go_simp; done) | (go_simp; rfl)); intro gb148 hg w7 hbox hb; have n0_ := Aside0.mk (below_step (by repeat (first | (with_reducible first | exact HB.out | apply below_alloc | apply pw_below_drewN | apply below_drew1) | exact HB.out)) hb); have n1_ := Aside0.mk (hbox); have n2_ := Aside0.mk ((by rw [hg]; exact (below_size (by repeat (first | (with_reducible first | exact HB.out | apply below_alloc | apply pw_below_drewN | apply below_drew1) | exact HB.out))) : w.heap.size ≤ gb148)); have n3_ := Aside0.mk ((by rw [hg]; exact (below_size (by repeat (first | (with_reducible first | exact HB.out | apply below_alloc | apply pw_below_drewN | apply below_drew1) | exact HB.out))) : w.heap.size ≤ gb148)); clear HB; have HB := n0_; have BK148 := n1_; have GW148 := n2_; have GE148 := n3_; clear n0_ n1_ n2_ n3_; clear hb hbox hg; have hcz8_0 : w7.cell? ⟨gb148, 0, none⟩ = some (.int .i64 0) := (blk_cell BK148.out 0).trans rfl; have hcz8_1 : w7.cell? ⟨gb148, 1, none⟩ = some (.int .i64 0) := (blk_cell BK148.out 1).trans rfl; have hfz8_0 := blk_frozen BK148.out 0; have hfz8_1 := blk_frozen BK148.out 1)); go_upto_region 6 with (first | ((with_reducible refine gate_dst (N := 5) rfl ?_); refine box_event ?hg (N := 5) ?hd (cs := #[.int .i64 0, .int .i64 0]) (t := 133) ?hr ?_; (case hd => rfl); (case hg => rfl); (case hr => first | (go_simp; done) | (go_simp; rfl)); intro gb148 hg w7 hbox hb; have n0_ := Aside0.mk (below_step (by repeat (first | (with_reducible first | exact HB.out | apply below_alloc | apply pw_below_drewN | apply below_drew1) | exact HB.out)) hb); have n1_ := Aside0.mk (hbox); have n2_ := Aside0.mk ((by rw [hg]; exact (below_size (by repeat (first | (with_reducible first | exact HB.out | apply below_alloc | apply pw_below_drewN | apply below_drew1) | exact HB.out))) : w.heap.size ≤ gb148)); have n3_ := Aside0.mk ((by rw [hg]; exact (below_size (by repeat (first | (with_reducible first | exact HB.out | apply below_alloc | apply pw_below_drewN | apply below_drew1) | exact HB.out))) : w.heap.size ≤ gb148)); clear HB; have HB := n0_; have BK148 := n1_; have GW148 := n2_; have GE148 := n3_; clear n0_ n1_ n2_ n3_; clear hb hbox hg; have hcz8_0 : w7.cell? ⟨gb148, 0, none⟩ = some (.int .i64 0) := (blk_cell BK148.out 0).trans rfl; have hcz8_1 : w7.cell? ⟨gb148, 1, none⟩ = some (.int .i64 0) := (blk_cell BK148.out 1).trans rfl; have hfz8_0 := blk_frozen BK148.out 0; have hfz8_1 := blk_frozen BK148.out 1)))
       (try simp only [Act.put, List.setIfInBounds_toArray, List.set_cons_zero, List.set_cons_succ])
       go_cut [30] (fun v30 wc => ∃ (kq : Nat) (x30_5 : Bool), v30 = .bool x30_5 ∧ Aside0 (span_Check.j1 kq l0 x11_1 l0 (l0.length : Int) x11_1 x30_5 ((rd_T133 l0 x11_1).f0) ((rd_T133 l0 x11_1).f1) = some (r1, r2)) ∧ Aside0 (kq ≤ k1) ∧ Aside0 (wc.heap[gb148]? = some (.cells #[.int .i64 ((rd_T133 l0 x11_1).f0), .int .i64 ((rd_T133 l0 x11_1).f1)] 133 (0, 0))) ∧ Aside0 (Below w.heap.size w wc))
       case first =>
        have H := HC6.out
        clear HC6
        by_cases c9 : ((rd_T133 l0 x11_1).f0) < 0
        ·rw [if_pos c9] at H
         have c9b0 : decide (((rd_T133 l0 x11_1).f0) < 0) = true := decide_eq_true c9
         clear c9
         (first | rw [c9b0] | (simp only [i64_w, i32_w]; rw [c9b0]) | skip)
         have H' := Aside0.mk H
         clear H
         have hcz10_0 : w7.cell? ⟨gb148, 0, none⟩ = some (.int .i64 0) := (blk_cell BK148.out 0).trans rfl
         have hcz10_1 : w7.cell? ⟨gb148, 1, none⟩ = some (.int .i64 0) := (blk_cell BK148.out 1).trans rfl
         have hfz10_0 := blk_frozen BK148.out 0
         have hfz10_1 := blk_frozen BK148.out 1
         go_wp2
         repeat (go_quiet (fail); try go_wp2)
         go_meet
         case rel => exact ⟨_, (true), (by first | rfl | (simp; done) | (simp [*]; done)), H', ⟨by have := HK1.out; first | omega | exact Nat.le_refl _⟩, ⟨by (with_reducible repeat (first | refine blk_drewN ?_ _ | refine blk_drew ?_ | refine blk_alloc ?_ _)); refine blk_put (cs := #[.int .i64 ((rd_T133 l0 x11_1).f0), .int .i64 0]) ?_ 1 _ rfl; (with_reducible repeat (first | refine blk_drewN ?_ _ | refine blk_drew ?_ | refine blk_alloc ?_ _)); refine blk_put (cs := #[.int .i64 0, .int .i64 0]) ?_ 0 _ rfl; (with_reducible repeat (first | refine blk_drewN ?_ _ | refine blk_drew ?_ | refine blk_alloc ?_ _)); exact BK148.out⟩, ⟨by repeat (first | (with_reducible first | exact HB.out | apply below_alloc | apply pw_below_drewN | apply below_drew1 | refine below_set ?_ GE148.out) | exact HB.out)⟩⟩
        ·rw [if_neg c9] at H
         have c9b0 : decide (((rd_T133 l0 x11_1).f0) < 0) = false := decide_eq_false c9
         clear c9
         (first | rw [c9b0] | (simp only [i64_w, i32_w]; rw [c9b0]) | skip)
         by_cases c11 : ((rd_T133 l0 x11_1).f1) > 1048576
         ·rw [if_pos c11] at H
          have c11b0 : decide (1048576 < ((rd_T133 l0 x11_1).f1)) = true := decide_eq_true c11
          clear c11
          have H' := Aside0.mk H
          clear H
          have hcz12_0 : w7.cell? ⟨gb148, 0, none⟩ = some (.int .i64 0) := (blk_cell BK148.out 0).trans rfl
          have hcz12_1 : w7.cell? ⟨gb148, 1, none⟩ = some (.int .i64 0) := (blk_cell BK148.out 1).trans rfl
          have hfz12_0 := blk_frozen BK148.out 0
          have hfz12_1 := blk_frozen BK148.out 1
          go_wp2
          repeat (go_quiet (fail); try go_wp2)
          go_meet
          case rel => exact ⟨_, (true), (by first | rfl | (simp; done) | (simp [*]; done)), H', ⟨by have := HK1.out; first | omega | exact Nat.le_refl _⟩, ⟨by (with_reducible repeat (first | refine blk_drewN ?_ _ | refine blk_drew ?_ | refine blk_alloc ?_ _)); refine blk_put (cs := #[.int .i64 ((rd_T133 l0 x11_1).f0), .int .i64 0]) ?_ 1 _ rfl; (with_reducible repeat (first | refine blk_drewN ?_ _ | refine blk_drew ?_ | refine blk_alloc ?_ _)); refine blk_put (cs := #[.int .i64 0, .int .i64 0]) ?_ 0 _ rfl; (with_reducible repeat (first | refine blk_drewN ?_ _ | refine blk_drew ?_ | refine blk_alloc ?_ _)); exact BK148.out⟩, ⟨by repeat (first | (with_reducible first | exact HB.out | apply below_alloc | apply pw_below_drewN | apply below_drew1 | refine below_set ?_ GE148.out) | exact HB.out)⟩⟩
         ·rw [if_neg c11] at H
          have c11b0 : decide (1048576 < ((rd_T133 l0 x11_1).f1)) = false := decide_eq_false c11
          clear c11
          have H' := Aside0.mk H
          clear H
          have hcz13_0 : w7.cell? ⟨gb148, 0, none⟩ = some (.int .i64 0) := (blk_cell BK148.out 0).trans rfl
          have hcz13_1 : w7.cell? ⟨gb148, 1, none⟩ = some (.int .i64 0) := (blk_cell BK148.out 1).trans rfl
          have hfz13_0 := blk_frozen BK148.out 0
          have hfz13_1 := blk_frozen BK148.out 1
          go_wp2
          repeat (go_quiet (fail); try go_wp2)
          go_meet
          case rel => exact ⟨_, (decide (((rd_T133 l0 x11_1).f0) ≥ ((rd_T133 l0 x11_1).f1))), (by first | rfl | (simp; done) | (simp [*]; done)), H', ⟨by have := HK1.out; first | omega | exact Nat.le_refl _⟩, ⟨by (with_reducible repeat (first | refine blk_drewN ?_ _ | refine blk_drew ?_ | refine blk_alloc ?_ _)); refine blk_put (cs := #[.int .i64 ((rd_T133 l0 x11_1).f0), .int .i64 0]) ?_ 1 _ rfl; (with_reducible repeat (first | refine blk_drewN ?_ _ | refine blk_drew ?_ | refine blk_alloc ?_ _)); refine blk_put (cs := #[.int .i64 0, .int .i64 0]) ?_ 0 _ rfl; (with_reducible repeat (first | refine blk_drewN ?_ _ | refine blk_drew ?_ | refine blk_alloc ?_ _)); exact BK148.out⟩, ⟨by repeat (first | (with_reducible first | exact HB.out | apply below_alloc | apply pw_below_drewN | apply below_drew1 | refine below_set ?_ GE148.out) | exact HB.out)⟩⟩
       case rest =>
        clear HC6
        try clear c1
        try clear p1
        try clear q1
        try clear hx1
        try clear c2
        try clear c2b0
        try clear c2b1
        try clear p2
        try clear c3
        try clear c3b0
        try clear c4
        try clear c4b0
        try clear c5
        try clear c5b0
        try clear c9
        try clear c9b0
        try clear c11
        try clear c11b0
        try clear hcz10_0
        try clear hcz10_1
        try clear hcz12_0
        try clear hcz12_1
        try clear hcz13_0
        try clear hcz13_1
        try clear hcz8_0
        try clear hcz8_1
        try clear hfz10_0
        try clear hfz10_1
        try clear hfz12_0
        try clear hfz12_1
        try clear hfz13_0
        try clear hfz13_1
        try clear hfz8_0
        try clear hfz8_1
        try clear hx147_0
        try clear hx147_1
        try clear p147
        try clear p2
        try clear q147
        obtain ⟨kq, x30_5, rfl, HA, HJ5, BK148, HB⟩ := hcut
        cases kq with
        | zero => exact absurd HA.out (by simp [span_Check.j1])
        | succ kj5 =>
         have H := HA.out
         clear HA
         simp only [span_Check.j1] at H
         by_cases c14 : x30_5 = true
         ·subst c14
          have H1 : (some (x11_1, 20)) = some (r1, r2) := by rw [if_pos rfl] at H; exact H
          clear H
          have H := H1
          clear H1
          simp only [Option.some.injEq, Prod.mk.injEq] at H
          obtain ⟨rfl, rfl⟩ := H
          go_wp2
          repeat (go_quiet (fail); try go_wp2)
          go_ret2
          exact ⟨by first | rfl | (simp [errW_none, errW_some] <;> rfl) | (simp [*, errW_none, errW_some] <;> rfl), by repeat (first | (with_reducible first | exact HB.out | apply below_alloc | apply pw_below_drewN | apply below_drew1 | refine below_set ?_ GE148.out) | exact HB.out)⟩
         ·replace c14 := Bool.eq_false_iff.mpr c14
          subst c14
          have H1 : (if x11_1 > 0 then (if 0 ≤ (wrap64 (x11_1 - 1)) then (if (wrap64 (x11_1 - 1)) < (l0.length : Int) then (if ((rd_T133 l0 x11_1).f0) ≤ ((rd_T133 l0 (wrap64 (x11_1 - 1))).f1) then (some (x11_1, 22)) else (span_Check.l0 kj5 l0 l0 (l0.length : Int) (wrap64 (x11_1 + 1)))) else (none)) else (none)) else (span_Check.l0 kj5 l0 l0 (l0.length : Int) (wrap64 (x11_1 + 1)))) = some (r1, r2) := by rw [if_neg (show ¬ (false = true) by decide)] at H; exact H
          clear H
          have H := H1
          clear H1
          by_cases c15 : x11_1 > 0
          ·rw [if_pos c15] at H
           have c15b0 : decide (0 < x11_1) = true := decide_eq_true c15
           clear c15
           obtain ⟨ji16, hji16⟩ : ∃ j_ : Int, (wrap64 (x11_1 - 1)) = j_ := ⟨_, rfl⟩
           replace H : (if 0 ≤ (ji16) then (if (ji16) < (l0.length : Int) then (if ((rd_T133 l0 x11_1).f0) ≤ ((rd_T133 l0 (ji16)).f1) then (some (x11_1, 22)) else (span_Check.l0 kj5 l0 l0 (l0.length : Int) (wrap64 (x11_1 + 1)))) else (none)) else (none)) = some (r1, r2) := by first | (rw [hji16] at H; exact H) | (simp only [hji16] at H ⊢; exact H)
           have hji16w : (IntKind.i64.wrap (x11_1 - 1)) = ji16 := (i64_w _).trans hji16
           by_cases c17 : 0 ≤ (ji16)
           ·rw [if_pos c17] at H
            have c17b0 : decide (0 ≤ (ji16)) = true := decide_eq_true c17
            clear c17
            by_cases c18 : (ji16) < (l0.length : Int)
            ·rw [if_pos c18] at H
             have c18b0 : decide ((ji16) < (l0.length : Int)) = true := decide_eq_true c18
             clear c18
             by_cases c19 : ((rd_T133 l0 x11_1).f0) ≤ ((rd_T133 l0 (ji16)).f1)
             ·rw [if_pos c19] at H
              have c19b0 : decide (((rd_T133 l0 x11_1).f0) ≤ ((rd_T133 l0 (ji16)).f1)) = true := decide_eq_true c19
              clear c19
              simp only [Option.some.injEq, Prod.mk.injEq] at H
              obtain ⟨rfl, rfl⟩ := H
              have hcz20_0 : wc.cell? ⟨gb148, 0, none⟩ = some (.int .i64 ((rd_T133 l0 x11_1).f0)) := (blk_cell BK148.out 0).trans rfl
              have hcz20_1 : wc.cell? ⟨gb148, 1, none⟩ = some (.int .i64 ((rd_T133 l0 x11_1).f1)) := (blk_cell BK148.out 1).trans rfl
              have hfz20_0 := blk_frozen BK148.out 0
              have hfz20_1 := blk_frozen BK148.out 1
              have p149 : 0 ≤ ((ji16) : Int) := of_decide_eq_true (by first | (with_reducible assumption) | assumption)
              have q149 : (ji16) < (l0.length : Int) := of_decide_eq_true (by first | (with_reducible assumption) | assumption)
              obtain ⟨ad149, e149, hx149_0, hx149_1⟩ := at_T133 HR0.out (ji16) p149 q149
              obtain rfl : ad147 = ad149 := (by injection e149)
              replace hx149_0 := (HB.out.cell (World.block_lt_of_cell? w _ hx149_0)).trans hx149_0
              replace hx149_1 := (HB.out.cell (World.block_lt_of_cell? w _ hx149_1)).trans hx149_1
              replace p149 := eq_true p149
              replace q149 := eq_true q149
              go_wp2
              repeat (go_quiet (fail); try go_wp2)
              go_ret2
              exact ⟨by first | rfl | (simp [errW_none, errW_some] <;> rfl) | (simp only [← hji16]; first | rfl | (simp [errW_none, errW_some] <;> rfl)) | (simp [*, errW_none, errW_some] <;> rfl), by repeat (first | (with_reducible first | exact HB.out | apply below_alloc | apply pw_below_drewN | apply below_drew1 | refine below_set ?_ GE148.out) | exact HB.out)⟩
             ·rw [if_neg c19] at H
              have c19b0 : decide (((rd_T133 l0 x11_1).f0) ≤ ((rd_T133 l0 (ji16)).f1)) = false := decide_eq_false c19
              clear c19
              have H' := Aside0.mk H
              clear H
              have hcz21_0 : wc.cell? ⟨gb148, 0, none⟩ = some (.int .i64 ((rd_T133 l0 x11_1).f0)) := (blk_cell BK148.out 0).trans rfl
              have hcz21_1 : wc.cell? ⟨gb148, 1, none⟩ = some (.int .i64 ((rd_T133 l0 x11_1).f1)) := (blk_cell BK148.out 1).trans rfl
              have hfz21_0 := blk_frozen BK148.out 0
              have hfz21_1 := blk_frozen BK148.out 1
              have p149 : 0 ≤ ((ji16) : Int) := of_decide_eq_true (by first | (with_reducible assumption) | assumption)
              have q149 : (ji16) < (l0.length : Int) := of_decide_eq_true (by first | (with_reducible assumption) | assumption)
              obtain ⟨ad149, e149, hx149_0, hx149_1⟩ := at_T133 HR0.out (ji16) p149 q149
              obtain rfl : ad147 = ad149 := (by injection e149)
              replace hx149_0 := (HB.out.cell (World.block_lt_of_cell? w _ hx149_0)).trans hx149_0
              replace hx149_1 := (HB.out.cell (World.block_lt_of_cell? w _ hx149_1)).trans hx149_1
              replace p149 := eq_true p149
              replace q149 := eq_true q149
              go_wp2
              repeat (go_quiet (fail); try go_wp2)
              go_roundg kj5
              case measure => have := HK1.out; have := HJ5.out; omega
              case rel => exact ⟨(wrap64 (x11_1 + 1)), (by first | rfl | (simp; done) | (simp [*]; done)), H', ⟨by have := HK1.out; have := HJ5.out; omega⟩, ⟨by repeat (first | (with_reducible first | exact HB.out | apply below_alloc | apply pw_below_drewN | apply below_drew1 | refine below_set ?_ GE148.out) | exact HB.out)⟩⟩
            ·rw [if_neg c18] at H
             exact absurd H (by simp)
           ·rw [if_neg c17] at H
            exact absurd H (by simp)
          ·rw [if_neg c15] at H
           have c15b0 : decide (0 < x11_1) = false := decide_eq_false c15
           clear c15
           have H' := Aside0.mk H
           clear H
           go_wp2
           repeat (go_quiet (fail); try go_wp2)
           go_roundg kj5
           case measure => have := HK1.out; have := HJ5.out; omega
           case rel => exact ⟨(wrap64 (x11_1 + 1)), (by first | rfl | (simp; done) | (simp [*]; done)), H', ⟨by have := HK1.out; have := HJ5.out; omega⟩, ⟨by repeat (first | (with_reducible first | exact HB.out | apply below_alloc | apply pw_below_drewN | apply below_drew1 | refine below_set ?_ GE148.out) | exact HB.out)⟩⟩
      ·rw [if_neg c5] at H
       exact absurd H (by simp)
     ·rw [if_neg c4] at H
      exact absurd H (by simp)
    ·rw [if_neg c3] at H
     have c3b0 : decide (x11_1 < (l0.length : Int)) = false := decide_eq_false c3
     clear c3
     simp only [Option.some.injEq, Prod.mk.injEq] at H
     obtain ⟨rfl, rfl⟩ := H
     go_wp2
     repeat (go_quiet (fail); try go_wp2)
     go_ret2
     exact ⟨by first | rfl | (simp [errW_none, errW_some] <;> rfl) | (simp [*, errW_none, errW_some] <;> rfl), by repeat (first | (with_reducible first | exact HB.out | apply below_alloc | apply pw_below_drewN | apply below_drew1) | exact HB.out)⟩
mutual
def redraftlaw03_bumped.l0 : Nat → List (S133) → Int → List (S36) → Int → Option ((List (S36)))
 | 0, _, _, _, _ => none
 | k + 1, x1, x2, x7, x8 => if x8 < (x1.length : Int) then (if 0 ≤ x8 then (redraftlaw03_bumped.l1 k x1 x2 x7 x8 ((rd_T133 x1 x8).f0)) else (none)) else (some x7)
def redraftlaw03_bumped.l1 : Nat → List (S133) → Int → List (S36) → Int → Int → Option ((List (S36)))
 | 0, _, _, _, _, _ => none
 | k + 1, x1, x2, x7, x8, x9 => if 0 ≤ x8 then (if x8 < (x1.length : Int) then (if x9 < ((rd_T133 x1 x8).f1) then (if 0 ≤ x9 then (if x9 < (x7.length : Int) then (redraftlaw03_bumped.l1 k x1 x2 (x7.set (x9 : Int).toNat (⟨(rd_T36 x7 x9).f0, wrap64 (((rd_T36 x7 x9).f1) + x2)⟩ : S36)) x8 (wrap64 (x9 + 1))) else (none)) else (none)) else (redraftlaw03_bumped.l0 k x1 x2 x7 (wrap64 (x8 + 1)))) else (none)) else (none)
end
def redraftlaw03_bumped.f (k : Nat) (l0 : List (S36)) (l1 : List (S133)) (a2 : Int) : Option ((List (S36))) := if ([] : List (S36)).length + l0.length < 8796093022208 then (redraftlaw03_bumped.l0 k l1 a2 (([] : List (S36)) ++ l0) 0) else (none)
theorem redraftlaw03_bumped.mono_l : ∀ k, (∀ y0 y1 y2 y3, LeO (redraftlaw03_bumped.l0 k y0 y1 y2 y3) (redraftlaw03_bumped.l0 (k + 1) y0 y1 y2 y3)) ∧ (∀ y0 y1 y2 y3 y4, LeO (redraftlaw03_bumped.l1 k y0 y1 y2 y3 y4) (redraftlaw03_bumped.l1 (k + 1) y0 y1 y2 y3 y4))
 | 0 => ⟨fun _ _ _ _ r h => by simp [redraftlaw03_bumped.l0] at h, fun _ _ _ _ _ r h => by simp [redraftlaw03_bumped.l1] at h⟩
 | k + 1 => by
  obtain ⟨ih0, ih1⟩ := redraftlaw03_bumped.mono_l k
  refine ⟨?_, ?_⟩
  ·intro y0 y1 y2 y3
   unfold redraftlaw03_bumped.l0
   repeat' first
   | (with_reducible exact ih0 _ _ _ _)
   | (with_reducible exact ih1 _ _ _ _ _)
   | (with_reducible exact LeO.refl _)
   | (with_reducible exact LeO.none _)
   | (with_reducible refine LeO.ite ?_ ?_)
   | (with_reducible refine LeO.bind ?_ (fun _ => ?_))
   | exact ih0 _ _ _ _
   | exact ih1 _ _ _ _ _
   | exact LeO.none _
   | refine LeO.ite ?_ ?_
   | refine LeO.bind ?_ (fun _ => ?_)
  ·intro y0 y1 y2 y3 y4
   unfold redraftlaw03_bumped.l1
   repeat' first
   | (with_reducible exact ih0 _ _ _ _)
   | (with_reducible exact ih1 _ _ _ _ _)
   | (with_reducible exact LeO.refl _)
   | (with_reducible exact LeO.none _)
   | (with_reducible refine LeO.ite ?_ ?_)
   | (with_reducible refine LeO.bind ?_ (fun _ => ?_))
   | exact ih0 _ _ _ _
   | exact ih1 _ _ _ _ _
   | exact LeO.none _
   | refine LeO.ite ?_ ?_
   | refine LeO.bind ?_ (fun _ => ?_)
theorem redraftlaw03_bumped.mono : ∀ a0 a1 a2 k, LeO (redraftlaw03_bumped.f k a0 a1 a2) (redraftlaw03_bumped.f (k + 1) a0 a1 a2) := by
 intro a0 a1 a2 k
 obtain ⟨ih0, ih1⟩ := redraftlaw03_bumped.mono_l k
 unfold redraftlaw03_bumped.f
 repeat' first
   | (with_reducible exact ih0 _ _ _ _)
   | (with_reducible exact ih1 _ _ _ _ _)
   | (with_reducible exact LeO.refl _)
   | (with_reducible exact LeO.none _)
   | (with_reducible refine LeO.ite ?_ ?_)
   | (with_reducible refine LeO.bind ?_ (fun _ => ?_))
   | exact ih0 _ _ _ _
   | exact ih1 _ _ _ _ _
   | exact LeO.none _
   | refine LeO.ite ?_ ?_
   | refine LeO.bind ?_ (fun _ => ?_)
set_option maxHeartbeats 8000000 in
set_option maxRecDepth 100000 in
theorem redraftlaw03_bumped.calls (k : Nat) (A0 : Option Addr) (c0 : Nat) (l0 : List (S36)) (A1 : Option Addr) (c1 : Nat) (l1 : List (S133)) (a2 : Int) (r : List (S36)) (w : World) (hr0 : Kd.C k36 w A0 l0.length l0) (hc0 : l0.length ≤ c0) (hr1 : Kd.C k133 w A1 l1.length l1) (hc1 : l1.length ≤ c1) (h : redraftlaw03_bumped.f k l0 l1 a2 = some r) :
  Calls Tryd.prog 50 #[.slice A0 l0.length c0, .slice A1 l1.length c1, .int .i64 a2] w fun e w' => ∃ v0_ : Value, e = .returned (v0_) ∧ Kd.R k36 36 w' w.heap.size (fun _ => True) v0_ r ∧ Below w.heap.size w w' := by
 have HR0 := Aside0.mk hr0
 have HC0 := Aside0.mk hc0
 clear hr0 hc0
 have HR1 := Aside0.mk hr1
 have HC1 := Aside0.mk hc1
 clear hr1 hc1
 have HB := Aside0.mk (Below.refl w.heap.size w)
 have H : (if ([] : List (S36)).length + l0.length < 8796093022208 then (redraftlaw03_bumped.l0 k l1 a2 (([] : List (S36)) ++ l0) 0) else (none)) = some r := h
 clear h
 by_cases c4 : ([] : List (S36)).length + l0.length < 8796093022208
 ·rw [if_pos c4] at H
  have LMc4 := Aside0.mk c4
  clear c4
  obtain ⟨y150, hy150⟩ : ∃ y_ : List (S36), y_ = (([] : List (S36)) ++ l0) := ⟨_, rfl⟩
  replace H : (redraftlaw03_bumped.l0 k l1 a2 y150 0) = some r := by first | (rw [hy150]; with_reducible exact H) | (have H2_ := (Option.bind_some _ _).symm.trans H; rw [hy150]; with_reducible exact H2_) | (have H2_ := (Option.bind_some _ _).symm.trans H; with_reducible exact H2_) | with_reducible exact H | (rw [hy150]; exact H) | exact H
  have Ny150 := Aside0.mk hy150
  clear hy150
  have H' := Aside0.mk H
  clear H
  go_enter Tryd.func50, Tryd.ntmps50
  go_wp2_with (first | ((with_reducible refine gate_builtin (b := .append) (xs := #[.const (.slice none 0 0), .tmp 10]) rfl ?_); at_builtin; refine Kd.R_append_rows k36 (w0 := w) w.heap.size rfl (.const (.slice none 0 0)) (.tmp 10) 25 36 (.agg #[(.int .i32 0), (.int .i64 0)]) 16 rfl Tryd.underlying25 info36 rfl (by decide) (by omega) (.slice none 0 0) ([] : List (S36)) l0 _ _ _ (fun _ => True) (fun _ => False) rfl rfl ?aO ?aR (fun _ _ h => h) (fun _ h => h.elim) ?aF ?aB ?aS ?aL ?_; (case aR => repeat (first | exact HR0.out | (with_reducible refine Kd.C_alloc ?_ _) | (with_reducible refine Kd.C_drewN ?_ _) | (with_reducible refine Kd.C_drew ?_))); (case aB => exact (by repeat (first | (with_reducible first | exact HB.out | apply below_alloc | apply pw_below_drewN | apply below_drew1) | exact HB.out))); (case aF => exact (fun _ _ => trivial)); (case aO => exact ((Kd.R_nil _ _ _ _ (fun _ => True)))); (case aS => exact (below_size (by repeat (first | (with_reducible first | exact HB.out | apply below_alloc | apply pw_below_drewN | apply below_drew1) | exact HB.out)))); (case aL => have := LMc4.out; omega); intro v151 w5 ho hb hg hat; rw [← Ny150.out] at ho; have n0_ := Aside0.mk (hb); have n1_ := Aside0.mk (ho); clear HB; have HB := n0_; have HO152 := n1_; clear n0_ n1_; clear ho hb hg hat))
  go_loopg [8] k (fun kq v8 w' => ∃ (x7_1 : List (S36)) (x8_1 : Int), v8 = .int .i64 x8_1 ∧ Aside0 (redraftlaw03_bumped.l0 kq l1 a2 x7_1 x8_1 = some r) ∧ Aside0 (kq ≤ k) ∧ Aside0 (Kd.R k36 36 w' w.heap.size (fun _ => True) v151 x7_1) ∧ Aside0 (Below w.heap.size w w'))
  case atStart => exact ⟨(y150), (0), (by first | rfl | (simp; done) | (simp [*]; done)), H', ⟨Nat.le_refl _⟩, ⟨by (with_reducible repeat (first | apply Kd.R_alloc | apply Kd.R_drewN | apply Kd.R_drew)); exact HO152.out⟩, ⟨by repeat (first | (with_reducible first | exact HB.out | apply below_alloc | apply pw_below_drewN | apply below_drew1) | exact HB.out)⟩⟩
  case round =>
   clear H'
   try clear c1
   try clear p2
   try clear c4
   try clear c5
   obtain ⟨x7_1, x8_1, rfl, HA, HK1, HO_7, HB⟩ := hrel
   cases gk with
   | zero => exact absurd HA.out (by simp [redraftlaw03_bumped.l0])
   | succ k1 =>
    have H := HA.out
    clear HA
    simp only [redraftlaw03_bumped.l0] at H
    by_cases c6 : x8_1 < (l1.length : Int)
    ·rw [if_pos c6] at H
     have c6b0 : decide (x8_1 < (l1.length : Int)) = true := decide_eq_true c6
     clear c6
     by_cases c7 : 0 ≤ x8_1
     ·rw [if_pos c7] at H
      have c7b0 : decide (0 ≤ x8_1) = true := decide_eq_true c7
      clear c7
      have H' := Aside0.mk H
      clear H
      have p153 : 0 ≤ (x8_1 : Int) := of_decide_eq_true (by first | (with_reducible assumption) | assumption)
      have q153 : x8_1 < (l1.length : Int) := of_decide_eq_true (by first | (with_reducible assumption) | assumption)
      obtain ⟨ad153, e153, hx153_0, hx153_1⟩ := at_T133 HR1.out x8_1 p153 q153
      cases e153
      replace hx153_0 := (HB.out.cell (World.block_lt_of_cell? w _ hx153_0)).trans hx153_0
      replace hx153_1 := (HB.out.cell (World.block_lt_of_cell? w _ hx153_1)).trans hx153_1
      replace p153 := eq_true p153
      replace q153 := eq_true q153
      go_wp2
      go_loopg [9] k1 (fun kq v9 w' => ∃ (x7_2 : List (S36)) (x9_2 : Int), v9 = .int .i64 x9_2 ∧ Aside0 (redraftlaw03_bumped.l1 kq l1 a2 x7_2 x8_1 x9_2 = some r) ∧ Aside0 (kq ≤ k1) ∧ Aside0 (Kd.R k36 36 w' w.heap.size (fun _ => True) v151 x7_2) ∧ Aside0 (Below w.heap.size w w'))
      case atStart => exact ⟨(x7_1), ((rd_T133 l1 x8_1).f0), (by first | rfl | (simp; done) | (simp [*]; done)), H', ⟨Nat.le_refl _⟩, ⟨by (with_reducible repeat (first | apply Kd.R_alloc | apply Kd.R_drewN | apply Kd.R_drew)); exact HO_7.out⟩, ⟨by repeat (first | (with_reducible first | exact HB.out | apply below_alloc | apply pw_below_drewN | apply below_drew1) | exact HB.out)⟩⟩
      case round =>
       clear H'
       try clear c1
       try clear p1
       try clear q1
       try clear hx1
       try clear p2
       try clear c4
       try clear c5
       try clear c6
       try clear c6b0
       try clear c7
       try clear c7b0
       try clear hx153_0
       try clear hx153_1
       try clear p153
       try clear p2
       try clear q153
       obtain ⟨x7_2, x9_2, rfl, HA, HK2, HO_7, HB⟩ := hrel
       cases gk with
       | zero => exact absurd HA.out (by simp [redraftlaw03_bumped.l1])
       | succ k2 =>
        have H := HA.out
        clear HA
        simp only [redraftlaw03_bumped.l1] at H
        by_cases c8 : 0 ≤ x8_1
        ·rw [if_pos c8] at H
         have c8b0 : decide (0 ≤ x8_1) = true := decide_eq_true c8
         clear c8
         by_cases c9 : x8_1 < (l1.length : Int)
         ·rw [if_pos c9] at H
          have c9b0 : decide (x8_1 < (l1.length : Int)) = true := decide_eq_true c9
          clear c9
          by_cases c10 : x9_2 < ((rd_T133 l1 x8_1).f1)
          ·rw [if_pos c10] at H
           have c10b0 : decide (x9_2 < ((rd_T133 l1 x8_1).f1)) = true := decide_eq_true c10
           clear c10
           by_cases c11 : 0 ≤ x9_2
           ·rw [if_pos c11] at H
            have c11b0 : decide (0 ≤ x9_2) = true := decide_eq_true c11
            clear c11
            by_cases c12 : x9_2 < (x7_2.length : Int)
            ·rw [if_pos c12] at H
             have c12b0 : decide (x9_2 < (x7_2.length : Int)) = true := decide_eq_true c12
             clear c12
             obtain ⟨y156, hy156⟩ : ∃ y_ : List (S36), y_ = (x7_2.set (x9_2 : Int).toNat (⟨(rd_T36 x7_2 x9_2).f0, wrap64 (((rd_T36 x7_2 x9_2).f1) + a2)⟩ : S36)) := ⟨_, rfl⟩
             replace H : (redraftlaw03_bumped.l1 k2 l1 a2 y156 x8_1 (wrap64 (x9_2 + 1))) = some r := by first | (rw [hy156]; with_reducible exact H) | (have H2_ := (Option.bind_some _ _).symm.trans H; rw [hy156]; with_reducible exact H2_) | (have H2_ := (Option.bind_some _ _).symm.trans H; with_reducible exact H2_) | with_reducible exact H | (rw [hy156]; exact H) | exact H
             have Ny156 := Aside0.mk hy156
             clear hy156
             have H' := Aside0.mk H
             clear H
             have p154 : 0 ≤ (x8_1 : Int) := of_decide_eq_true (by first | (with_reducible assumption) | assumption)
             have q154 : x8_1 < (l1.length : Int) := of_decide_eq_true (by first | (with_reducible assumption) | assumption)
             obtain ⟨ad154, e154, hx154_0, hx154_1⟩ := at_T133 HR1.out x8_1 p154 q154
             obtain rfl : ad153 = ad154 := (by injection e154)
             replace hx154_0 := (HB.out.cell (World.block_lt_of_cell? w _ hx154_0)).trans hx154_0
             replace hx154_1 := (HB.out.cell (World.block_lt_of_cell? w _ hx154_1)).trans hx154_1
             replace p154 := eq_true p154
             replace q154 := eq_true q154
             obtain ⟨Ao14, co14, eo14⟩ := Kd.R_slice HO_7.out
             subst eo14
             have p155 : 0 ≤ (x9_2 : Int) := of_decide_eq_true (by first | (with_reducible assumption) | assumption)
             have q155 : x9_2 < (x7_2.length : Int) := of_decide_eq_true (by first | (with_reducible assumption) | assumption)
             obtain ⟨ad155, e155, hx155_0, hx155_1⟩ := at_T36 (Kd.R_reads' HO_7.out).2.2 x9_2 p155 q155
             cases e155
             replace p155 := eq_true p155
             replace q155 := eq_true q155
             have p13 : 0 ≤ (x9_2 : Int) := of_decide_eq_true (by first | (with_reducible assumption) | assumption)
             have q13 : (x9_2 : Int) < ((x7_2.length : Int) : Int) := of_decide_eq_true (by first | (with_reducible assumption) | assumption)
             obtain ⟨go13, co13, eo13, gb13, gl13, cl13, HG13⟩ := Kd.R_form HO_7.out (by omega)
             (first | cases eo13 | (injection eo13 with ea_ en_ ec_; (first | subst ea_ | (injection ea_ with ea_; subst ea_)); subst ec_; clear en_))
             have GB13 := Aside0.mk gb13
             have GG13 := Aside0.mk HG13
             clear gb13 gl13 HG13
             (first | simp only [add_plain] at hx155_0 | skip)
             (first | simp only [add_plain] at hx155_1 | skip)
             obtain ⟨ce13, hcl13, hM13, hcc13, hfr13⟩ := Kd.R_elem HO_7.out z36 (x9_2 : Int) p13 q13
             obtain rfl := k36_openM hM13
             have hx13_0 : wr.cell? ⟨go13, (x9_2 : Int).toNat * 2, none⟩ = some (.int .i32 ((rd_T36 x7_2 x9_2).f0)) := hcc13 0 _ rfl
             have hx13_1 : wr.cell? ⟨go13, (x9_2 : Int).toNat * 2 + 1, none⟩ = some (.int .i64 ((rd_T36 x7_2 x9_2).f1)) := hcc13 1 _ rfl
             have hf13_0 : wr.frozen? ⟨go13, (x9_2 : Int).toNat * 2, none⟩ = false := hfr13 0
             have hf13_1 : wr.frozen? ⟨go13, (x9_2 : Int).toNat * 2 + 1, none⟩ = false := hfr13 1
             clear hcl13 hcc13 hfr13 hM13
             replace p13 := eq_true p13
             replace q13 := eq_true q13
             have HX15 := Aside0.mk (show Kd.R k36 36 wr w.heap.size (fun _ => True) (.slice (some ⟨go13, 0, none⟩) x7_2.length co14) x7_2 from (by (with_reducible repeat (first | apply Kd.R_alloc | apply Kd.R_drewN | apply Kd.R_drew)); exact HO_7.out))
             obtain ⟨ce15, hcl15, hM15, hcc15, hfr15⟩ := Kd.R_elem HX15.out z36 (x9_2 : Int) (of_decide_eq_true (by first | (with_reducible assumption) | assumption)) (by have h_ : (x9_2 : Int) < ((x7_2.length : Int) : Int) := of_decide_eq_true (by first | (with_reducible assumption) | assumption); first | exact h_ | (have e_ := (Kd.R_reads' HO_7.out).1; omega) | simpa using h_)
             obtain rfl := k36_openM hM15
             have HP15 := Kd.R_seg HX15.out (x9_2 : Int) (of_decide_eq_true (by first | (with_reducible assumption) | assumption)) (by have h_ : (x9_2 : Int) < ((x7_2.length : Int) : Int) := of_decide_eq_true (by first | (with_reducible assumption) | assumption); first | exact h_ | (have e_ := (Kd.R_reads' HO_7.out).1; omega) | simpa using h_) (seg := [.int .i64 (wrap64 (((rd_T36 x7_2 x9_2).f1) + a2))]) (j := 1) hcl15 hcc15 (show 2 ≤ 2 from by decide) (x' := (⟨(rd_T36 x7_2 x9_2).f0, wrap64 (((rd_T36 x7_2 x9_2).f1) + a2)⟩ : S36)) (k36_mkM _ _ _ (⟨(rd_T36 x7_2 x9_2).f0, wrap64 (((rd_T36 x7_2 x9_2).f1) + a2)⟩ : S36) ) (fun _ hk => hk)
             have hx15_1 := hcc15 1 _ rfl
             (try simp only [show (k36).sz = 2 from rfl, Nat.mul_one, Nat.add_zero] at hx15_1)
             have hf15_1 := hfr15 1
             (try simp only [show (k36).sz = 2 from rfl, Nat.mul_one, Nat.add_zero] at hf15_1)
             clear hcl15 hcc15 hfr15 hM15
             go_wp2_with (first | ((with_reducible refine gate_store (t := 3) (p := 42) rfl ?_); refine store_event (t := 3) (p := 42) (v := ?vo_w16) (w1 := (wr.setCell ⟨go13, (x9_2 : Int).toNat * 2 + 1, none⟩ (.int .i64 (wrap64 (((rd_T36 x7_2 x9_2).f1) + a2))))) ?hg ?ho ?hn ?hr ?_; (case ho => rfl); (case hg => rfl); (case hn => rfl); (case hr => first | (go_simp; done) | (go_simp; rfl)); intro w16 hw; have hg : wr.grownBy w16 (some go13) := (by rw [hw]; exact HP15.2); have hp_ : Kd.R k36 36 w16 w.heap.size (fun _ => True) (.slice (some ⟨go13, 0, none⟩) x7_2.length co14) y156 := (by rw [hw, Ny156.out]; exact HP15.1); clear HP15; have n0_ := Aside0.mk (hp_); have n1_ := Aside0.mk ((by rw [hw]; exact below_set (HB.out) GB13.out : Below w.heap.size w w16)); clear HO_7; clear HB; have HO_7 := n0_; have HB := n1_; clear n0_ n1_; clear hg hw hp_))
             go_roundg k2
             case measure => have := HK1.out; have := HK2.out; omega
             case rel => exact ⟨(y156), (wrap64 (x9_2 + 1)), (by first | rfl | (simp; done) | (simp [*]; done)), H', ⟨by have := HK1.out; have := HK2.out; omega⟩, ⟨by (with_reducible repeat (first | apply Kd.R_alloc | apply Kd.R_drewN | apply Kd.R_drew)); exact HO_7.out⟩, ⟨by repeat (first | (with_reducible first | exact HB.out | apply below_alloc | apply pw_below_drewN | apply below_drew1) | exact HB.out)⟩⟩
            ·rw [if_neg c12] at H
             exact absurd H (by simp)
           ·rw [if_neg c11] at H
            exact absurd H (by simp)
          ·rw [if_neg c10] at H
           have c10b0 : decide (x9_2 < ((rd_T133 l1 x8_1).f1)) = false := decide_eq_false c10
           clear c10
           have H' := Aside0.mk H
           clear H
           have p154 : 0 ≤ (x8_1 : Int) := of_decide_eq_true (by first | (with_reducible assumption) | assumption)
           have q154 : x8_1 < (l1.length : Int) := of_decide_eq_true (by first | (with_reducible assumption) | assumption)
           obtain ⟨ad154, e154, hx154_0, hx154_1⟩ := at_T133 HR1.out x8_1 p154 q154
           obtain rfl : ad153 = ad154 := (by injection e154)
           replace hx154_0 := (HB.out.cell (World.block_lt_of_cell? w _ hx154_0)).trans hx154_0
           replace hx154_1 := (HB.out.cell (World.block_lt_of_cell? w _ hx154_1)).trans hx154_1
           replace p154 := eq_true p154
           replace q154 := eq_true q154
           go_wp2
           go_roundg k2
           case measure => have := HK1.out; have := HK2.out; omega
           case rel => exact ⟨(x7_2), (wrap64 (x8_1 + 1)), (by first | rfl | (simp; done) | (simp [*]; done)), H', ⟨by have := HK1.out; have := HK2.out; omega⟩, ⟨by (with_reducible repeat (first | apply Kd.R_alloc | apply Kd.R_drewN | apply Kd.R_drew)); exact HO_7.out⟩, ⟨by repeat (first | (with_reducible first | exact HB.out | apply below_alloc | apply pw_below_drewN | apply below_drew1) | exact HB.out)⟩⟩
         ·rw [if_neg c9] at H
          exact absurd H (by simp)
        ·rw [if_neg c8] at H
         exact absurd H (by simp)
     ·rw [if_neg c7] at H
      exact absurd H (by simp)
    ·rw [if_neg c6] at H
     have c6b0 : decide (x8_1 < (l1.length : Int)) = false := decide_eq_false c6
     clear c6
     obtain rfl := Option.some.inj H
     go_wp2
     go_ret
     exact ⟨_, by first | rfl | (simp [errW_none, errW_some] <;> rfl) | (simp [*, errW_none, errW_some] <;> rfl), by (with_reducible repeat (first | apply Kd.R_alloc | apply Kd.R_drewN | apply Kd.R_drew)); exact HO_7.out, by repeat (first | (with_reducible first | exact HB.out | apply below_alloc | apply pw_below_drewN | apply below_drew1) | exact HB.out)⟩
 ·rw [if_neg c4] at H
  exact absurd H (by simp)
end Go.Proofs.YteeigokkafcaaaaDoor.Pr
end
section
namespace Go.Proofs.YteeigokkafcaaaaDoorRope
open Go.RowKit Go.Proofs.YteeigokkafcaaaaDoorW.PrintWords Go.Proofs.YteeigokkafcaaaaDoorW.PrintMore Go.Proofs.YteeigokkafcaaaaDoor.Pr
set_option linter.unusedSimpArgs false
set_option linter.unusedVariables false
def sRng (l : List (Nat × Nat)) : List S133 := l.map fun r => ⟨(r.1 : Int), (r.2 : Int)⟩
theorem sRng_len (l : List (Nat × Nat)) : (sRng l).length = l.length := by simp [sRng]
theorem rd_sRng {l : List (Nat × Nat)} {i : Nat} (h : i < l.length) : rd_T133 (sRng l) (i : Int) = ⟨(l[i].1 : Int), (l[i].2 : Int)⟩ := by
  simp [rd_T133, sRng, h]
structure Norm (l : List (Nat × Nat)) (n : Nat) : Prop where
  one : ∀ r ∈ l, r.1 < r.2 ∧ r.2 ≤ n
  two : ∀ i (h : i + 1 < l.length), l[i].2 < l[i + 1].1
  len : l.length ≤ 32768
theorem check_l0 {l : List (Nat × Nat)} {n : Nat} (hN : Norm l n) (hn : n ≤ 1048576) : ∀ (d i : Nat), i + d = l.length → span_Check.l0 (2 * d + 1) (sRng l) (sRng l) (l.length : Int) (i : Int) = some (0, 0) := by
  intro d
  induction d with
  | zero =>
    intro i hi
    rw [span_Check.l0, if_neg (by omega)]
  | succ d ih =>
    intro i hi
    have hil : i < l.length := by omega
    obtain ⟨h1, h2⟩ := hN.one _ (List.getElem_mem hil)
    have hl := hN.len
    have e1 : wrap64 ((i : Int) + 1) = ((i + 1 : Nat) : Int) := by rw [w64 (by omega) (by omega)]; omega
    rw [show 2 * (d + 1) + 1 = (2 * d + 1) + 1 + 1 by omega, span_Check.l0, if_pos (by omega), if_pos (by omega), if_pos (by rw [sRng_len]; omega), rd_sRng hil]
    dsimp only
    rw [if_neg (by omega), if_neg (by omega), span_Check.j1, if_neg (by simp; omega)]
    by_cases h0 : i = 0
    · rw [if_neg (by omega), e1]
      exact ih (i + 1) (by omega)
    · have h3 := hN.two (i - 1) (by omega)
      simp only [show i - 1 + 1 = i by omega] at h3
      have e2 : wrap64 ((i : Int) - 1) = ((i - 1 : Nat) : Int) := by rw [w64 (by omega) (by omega)]; omega
      rw [if_pos (by omega), e2, if_pos (by omega), if_pos (by rw [sRng_len]; omega), rd_sRng (show i - 1 < l.length by omega)]
      dsimp only
      rw [if_neg (by omega), e1]
      exact ih (i + 1) (by omega)
theorem check_norm {l : List (Nat × Nat)} {n : Nat} (hN : Norm l n) (hn : n ≤ 1048576) : ∃ k, span_Check.f k (sRng l) = some (0, 0) := by
  refine ⟨2 * l.length + 1, ?_⟩
  have := hN.len
  unfold span_Check.f
  rw [sRng_len, if_neg (by omega)]
  exact check_l0 hN hn l.length 0 (by omega)
theorem check_calls {l : List (Nat × Nat)} {n : Nat} (hN : Norm l n) (hn : n ≤ 1048576) {w : World} {A : Option Addr} {c : Nat} (hA : Kd.C k133 w A l.length (sRng l)) (hc : l.length ≤ c) : Calls Tryd.prog 37 #[.slice A l.length c] w fun e w' => e = .returned (.tuple #[.int .i64 0, .int .i64 0]) ∧ Below w.heap.size w w' := by
  obtain ⟨k, hk⟩ := check_norm hN hn
  have hl := sRng_len l
  have := span_Check.calls k A c (sRng l) 0 0 w (by rw [hl]; exact hA) (by rw [hl]; exact hc) hk
  rwa [hl] at this
def bump1 (cs : List (Int × Int)) (r : Nat × Nat) (b : Int) : List (Int × Int) := cs.take r.1 ++ ((cs.take r.2).drop r.1).map (fun c => (c.1, c.2 + b)) ++ cs.drop r.2
def bumpC (cs : List (Int × Int)) (l : List (Nat × Nat)) (b : Int) : List (Int × Int) := l.foldl (fun cs r => bump1 cs r b) cs
theorem bump1_len {cs : List (Int × Int)} {r : Nat × Nat} {b : Int} (h1 : r.1 ≤ r.2) (h2 : r.2 ≤ cs.length) : (bump1 cs r b).length = cs.length := by
  simp only [bump1, List.length_append, List.length_map, List.length_take, List.length_drop]
  omega
theorem bump1_drop {cs : List (Int × Int)} {r : Nat × Nat} {b : Int} (h1 : r.1 ≤ r.2) (h2 : r.2 ≤ cs.length) {k : Nat} (hk : r.2 ≤ k) : (bump1 cs r b).drop k = cs.drop k := by
  unfold bump1
  have hl : (cs.take r.1 ++ ((cs.take r.2).drop r.1).map (fun c => (c.1, c.2 + b))).length = r.2 := by
    simp only [List.length_append, List.length_map, List.length_take, List.length_drop]
    omega
  rw [List.drop_append, List.drop_eq_nil_of_le (by omega), List.nil_append, hl, List.drop_drop]
  congr 1
  omega
theorem bumpC_take {cs : List (Int × Int)} {l : List (Nat × Nat)} {b : Int} {i : Nat} (hi : i < l.length) : bumpC cs (l.take (i + 1)) b = bump1 (bumpC cs (l.take i) b) l[i] b := by
  rw [List.take_succ_eq_append_getElem hi, bumpC, List.foldl_append]
  rfl
theorem bumpC_inv {cs : List (Int × Int)} {l : List (Nat × Nat)} {b : Int} (hN : Norm l cs.length) : ∀ i, i ≤ l.length → (bumpC cs (l.take i) b).length = cs.length ∧ ∀ k, (∀ h : 0 < i, ∀ h2 : i - 1 < l.length, l[i - 1].2 ≤ k) → (bumpC cs (l.take i) b).drop k = cs.drop k := by
  intro i
  induction i with
  | zero => intro _; exact ⟨rfl, fun k _ => rfl⟩
  | succ i ih =>
    intro hi
    obtain ⟨h1, h2⟩ := ih (by omega)
    have hil : i < l.length := by omega
    obtain ⟨g1, g2⟩ := hN.one _ (List.getElem_mem hil)
    rw [bumpC_take hil]
    refine ⟨by rw [bump1_len (by omega) (by omega), h1], fun k hk => ?_⟩
    have hk' : l[i].2 ≤ k := by simpa using hk (by omega) (by simpa using hil)
    rw [bump1_drop (by omega) (by omega) hk']
    refine h2 k (fun h0 h3 => ?_)
    have := hN.two (i - 1) (by omega)
    simp only [show i - 1 + 1 = i by omega] at this
    omega
theorem bumpC_len {cs : List (Int × Int)} {l : List (Nat × Nat)} {b : Int} (hN : Norm l cs.length) : (bumpC cs l b).length = cs.length := by
  have := (bumpC_inv (b := b) hN l.length (Nat.le_refl _)).1
  rwa [List.take_length] at this
theorem bumpC_mid {cs : List (Int × Int)} {l : List (Nat × Nat)} {b : Int} (hN : Norm l cs.length) {i : Nat} (hi : i < l.length) : ((bumpC cs (l.take i) b).take l[i].2).drop l[i].1 = (cs.take l[i].2).drop l[i].1 := by
  have h := (bumpC_inv (b := b) hN i (by omega)).2 l[i].1 (fun h0 h3 => by
    have := hN.two (i - 1) (by omega)
    simp only [show i - 1 + 1 = i by omega] at this
    omega)
  rw [List.drop_take, List.drop_take, h]
def BumpOk (cs : List (Int × Int)) (l : List (Nat × Nat)) (b : Int) : Prop := ∀ r ∈ l, ∀ c ∈ (cs.take r.2).drop r.1, 0 ≤ c.2 + b ∧ c.2 + b ≤ 1048576
theorem Tree.Good.of_cells {t : Tree} : ∀ {A B : Int}, t.Good A → InHid t.cells B → t.Good B := by
  induction t with
  | nil => intro A B _ _; trivial
  | node l rs hid r plus ihl ihr =>
    rintro A B ⟨h1, h2, h3, h4, h5, h6, h7, h8, h9⟩ hc
    have hx : ∀ d ∈ l.cells ++ rs.map (fun c => (c, hid)) ++ r.cells, 0 ≤ d.2 + (plus + B) ∧ d.2 + (plus + B) ≤ 1048577 := by
      intro d hd
      have := hc (d.1, d.2 + plus) (by simp only [Tree.cells]; exact List.mem_map.2 ⟨d, hd, rfl⟩)
      simp only at this
      omega
    obtain ⟨x, xs, hxs⟩ := List.exists_cons_of_ne_nil h1
    have hp := hx (x, hid) (List.mem_append_left _ (List.mem_append_right _ (List.mem_map.2 ⟨x, by rw [hxs]; simp, rfl⟩)))
    simp only at hp
    exact ⟨h1, h2, h3, by omega, by omega, h6, h7, ihl h8 (fun d hd => hx d (List.mem_append_left _ (List.mem_append_left _ hd))), ihr h9 (fun d hd => hx d (List.mem_append_right _ hd))⟩
theorem set_append {a : List S36} {x y : S36} {c : List S36} {q : Nat} (hq : a.length = q) : (a ++ x :: c).set q y = a ++ y :: c := by
  subst hq
  simp
theorem bump1_step {cs : List (Int × Int)} {lo q : Nat} {b : Int} (h1 : lo ≤ q) (h2 : q < cs.length) : ∃ x, (sCells (bump1 cs (lo, q) b))[q]? = some ⟨cs[q].1, cs[q].2⟩ ∧ (sCells (bump1 cs (lo, q) b)).set q ⟨cs[q].1, cs[q].2 + b⟩ = sCells (bump1 cs (lo, q + 1) b) ∧ x = q := by
  have e0 : cs.drop q = cs[q] :: cs.drop (q + 1) := List.drop_eq_getElem_cons h2
  have e1 : bump1 cs (lo, q) b = (cs.take lo ++ ((cs.take q).drop lo).map (fun c => (c.1, c.2 + b))) ++ (cs[q] :: cs.drop (q + 1)) := by
    unfold bump1
    simp only [e0]
  have e2 : bump1 cs (lo, q + 1) b = (cs.take lo ++ ((cs.take q).drop lo).map (fun c => (c.1, c.2 + b))) ++ ((cs[q].1, cs[q].2 + b) :: cs.drop (q + 1)) := by
    unfold bump1
    simp only [List.take_succ_eq_append_getElem h2]
    rw [List.drop_append_of_le_length (by rw [List.length_take]; omega), List.map_append]
    simp
  have hl : (cs.take lo ++ ((cs.take q).drop lo).map (fun c => (c.1, c.2 + b))).length = q := by
    simp only [List.length_append, List.length_map, List.length_take, List.length_drop]
    omega
  refine ⟨q, ?_, ?_, rfl⟩
  · rw [e1]
    simp only [sCells, List.map_append, List.map_cons]
    rw [List.getElem?_append_right (by rw [← List.map_append, List.length_map]; omega), ← List.map_append, List.length_map, hl, Nat.sub_self]
    rfl
  · rw [e1, e2]
    simp only [sCells, List.map_append, List.map_cons]
    rw [← List.map_append]
    exact set_append (by rw [List.length_map, hl])
theorem bump1_none {cs : List (Int × Int)} {lo : Nat} {b : Int} (h : lo ≤ cs.length) : bump1 cs (lo, lo) b = cs := by
  unfold bump1
  rw [List.drop_eq_nil_of_le (by rw [List.length_take]; omega)]
  simp
theorem bumped_l1 {cs C0 : List (Int × Int)} {l : List (Nat × Nat)} {b : Int} {i : Nat} (hi : i < l.length) (hN : Norm l C0.length) (hl : C0.length ≤ 1048576) (hc : C0.length = cs.length) (hb : ∀ c ∈ (C0.take l[i].2).drop l[i].1, 0 ≤ c.2 + b ∧ c.2 + b ≤ 1048576)
    {res : List S36} (hnext : ∃ k, redraftlaw03_bumped.l0 k (sRng l) b (sCells (bump1 C0 l[i] b)) ((i + 1 : Nat) : Int) = some res) : ∀ (d q : Nat), q + d = l[i].2 → l[i].1 ≤ q → ∃ k, redraftlaw03_bumped.l1 k (sRng l) b (sCells (bump1 C0 (l[i].1, q) b)) (i : Int) (q : Int) = some res := by
  obtain ⟨g1, g2⟩ := hN.one _ (List.getElem_mem hi)
  have hln := hN.len
  intro d
  induction d with
  | zero =>
    intro q hq h1
    obtain ⟨k, hk⟩ := hnext
    have e1 : wrap64 ((i : Int) + 1) = ((i + 1 : Nat) : Int) := by rw [w64 (by omega) (by omega)]; omega
    refine ⟨k + 1, ?_⟩
    rw [redraftlaw03_bumped.l1, if_pos (by omega), if_pos (by rw [sRng_len]; omega), rd_sRng hi, if_neg (by dsimp only; omega), e1]
    have : q = l[i].2 := by omega
    subst this
    exact hk
  | succ d ih =>
    intro q hq h1
    obtain ⟨k, hk⟩ := ih (q + 1) (by omega) (by omega)
    have hql : q < C0.length := by omega
    obtain ⟨_, s1, s2, _⟩ := bump1_step (b := b) h1 hql
    have hrd : rd_T36 (sCells (bump1 C0 (l[i].1, q) b)) (q : Int) = ⟨C0[q].1, C0[q].2⟩ := by
      simp only [rd_T36, Int.toNat_natCast]
      rw [List.getD_eq_getElem?_getD, s1]
      rfl
    have hbq := hb C0[q] (by
      rw [List.mem_iff_getElem]
      refine ⟨q - l[i].1, by rw [List.length_drop, List.length_take]; omega, ?_⟩
      simp only [List.getElem_drop, List.getElem_take]
      congr 1
      omega)
    have hbl : (bump1 C0 (l[i].1, q) b).length = C0.length := bump1_len (r := (l[i].1, q)) h1 (Nat.le_of_lt hql)
    have t1 : (i : Int) < ((sRng l).length : Int) := by rw [sRng_len]; omega
    have t2 : (q : Int) < ((sCells (bump1 C0 (l[i].1, q) b)).length : Int) := by rw [sCells_len, hbl]; omega
    have t3 : (q : Int) < (l[i].2 : Int) := by omega
    have e1 : wrap64 ((q : Int) + 1) = ((q + 1 : Nat) : Int) := by rw [w64 (by omega) (by omega)]; omega
    have e2 : wrap64 (C0[q].2 + b) = C0[q].2 + b := w64 (by omega) (by omega)
    refine ⟨k + 1, ?_⟩
    rw [redraftlaw03_bumped.l1, if_pos (Int.natCast_nonneg i), if_pos t1, rd_sRng hi, if_pos t3, if_pos (Int.natCast_nonneg q), if_pos t2, hrd, e1]
    dsimp only
    rw [e2, Int.toNat_natCast, s2]
    exact hk
theorem bumped_l0 {cs : List (Int × Int)} {l : List (Nat × Nat)} {b : Int} (hN : Norm l cs.length) (hl : cs.length ≤ 1048576) (hb : BumpOk cs l b) : ∀ (d i : Nat), i + d = l.length → ∃ k, redraftlaw03_bumped.l0 k (sRng l) b (sCells (bumpC cs (l.take i) b)) (i : Int) = some (sCells (bumpC cs l b)) := by
  intro d
  induction d with
  | zero =>
    intro i hi
    refine ⟨1, ?_⟩
    rw [redraftlaw03_bumped.l0, if_neg (by rw [sRng_len]; omega), show i = l.length by omega, List.take_length]
  | succ d ih =>
    intro i hi
    have hil : i < l.length := by omega
    obtain ⟨g1, g2⟩ := hN.one _ (List.getElem_mem hil)
    have hlen := (bumpC_inv (b := b) hN i (by omega)).1
    have hnx := ih (i + 1) (by omega)
    rw [bumpC_take hil] at hnx
    have hmid : ∀ c ∈ ((bumpC cs (l.take i) b).take l[i].2).drop l[i].1, 0 ≤ c.2 + b ∧ c.2 + b ≤ 1048576 := by
      rw [bumpC_mid hN hil]
      exact hb _ (List.getElem_mem hil)
    obtain ⟨k, hk⟩ := bumped_l1 (cs := cs) hil (by rw [hlen]; exact hN) (by omega) hlen hmid hnx (l[i].2 - l[i].1) l[i].1 (by omega) (Nat.le_refl _)
    rw [bump1_none (by omega)] at hk
    refine ⟨k + 1, ?_⟩
    rw [redraftlaw03_bumped.l0, if_pos (by rw [sRng_len]; omega), if_pos (by omega), rd_sRng hil]
    exact hk
theorem bumped_is {cs : List (Int × Int)} {l : List (Nat × Nat)} {b : Int} (hN : Norm l cs.length) (hl : cs.length ≤ 1048576) (hb : BumpOk cs l b) : ∃ k, redraftlaw03_bumped.f k (sCells cs) (sRng l) b = some (sCells (bumpC cs l b)) := by
  obtain ⟨k, hk⟩ := bumped_l0 hN hl hb l.length 0 (by omega)
  refine ⟨k, ?_⟩
  unfold redraftlaw03_bumped.f
  rw [if_pos (by simp [sCells_len]; omega), List.nil_append]
  exact hk
end Go.Proofs.YteeigokkafcaaaaDoorRope
end
section
namespace Go.Proofs.YteeigokkafcaaaaDoorRope
open Go.RowKit Go.Proofs.YteeigokkafcaaaaDoorW.PrintWords Go.Proofs.YteeigokkafcaaaaDoorW.PrintMore Go.Proofs.YteeigokkafcaaaaDoor.Pr
set_option linter.unusedSimpArgs false
set_option linter.unusedVariables false
theorem run_field3 (W : World) (x0 x1 x2 x3 x4 x5 : Int) : (Instr.field 110 (.agg #[.int .i64 x0, .int .i64 x1, .int .i64 x2, .int .i64 x3, .int .i64 x4, .int .i64 x5]) 3).run Tryd.prog W = .ok (.int .i64 x3) W := by
  kernel_rfl
theorem run_field5 (W : World) (x0 x1 x2 x3 x4 x5 : Int) : (Instr.field 110 (.agg #[.int .i64 x0, .int .i64 x1, .int .i64 x2, .int .i64 x3, .int .i64 x4, .int .i64 x5]) 5).run Tryd.prog W = .ok (.int .i64 x5) W := by
  kernel_rfl
attribute [local go_sem] run_field2 run_field0 run_field3 run_field5
theorem cells2k {W : World} {g k : Nat} {a b : Value} (h : W.heap[g]? = some (.cells #[a, b] k (0, 0))) : W.cell? ⟨g, 0, none⟩ = some a ∧ W.cell? ⟨g, 1, none⟩ = some b := by
  simp [World.cell?, h]
theorem lift_env {K : Nat → Prop} {w0 W : World} {ts : List (Tree × Value)} {ps : List Pc} {bs : List (Nat × Obj)} (h : Env K w0 W ts ps bs) {t : Tree} {v : Value} (hm : (t, v) ∈ ts) {b : Int} (hb : -1048577 ≤ b ∧ b ≤ 1048577) (hg : t.Good b) : Calls Tryd.prog 75 #[v, .int .i64 b] W (Made K w0 ts ps bs (t.cells.map (fun c => (c.1, c.2 + b))) t.ht t.ht) := by
  have ht := (h.t _ hm).bound
  refine (lift_calls ht.rep hg hb).mono ?_
  rintro e w' ⟨v', he, hr, hbl⟩
  exact ⟨t.lift b, v', he, (h.below hbl).addT ⟨hr.mono (up_ku (fun k hk => hk.1) h.up), Tree.Good.lift (by simpa using hg)⟩, Tree.cells_lift t b, by rw [Tree.ht_lift]; exact Nat.le_refl _, by rw [Tree.ht_lift]; exact Nat.le_refl _⟩
theorem rng_cell {W : World} {A : Option Addr} {l : List (Nat × Nat)} (h : Kd.C k133 W A l.length (sRng l)) {k : Nat} (hk : k < l.length) : ∃ ad, A = some ad ∧ W.cell? (ad.add (k * 2)) = some (.int .i64 (l[k].1 : Int)) ∧ W.cell? ⟨(ad.add (k * 2)).block, (ad.add (k * 2)).off + 1, none⟩ = some (.int .i64 (l[k].2 : Int)) := by
  have hl := sRng_len l
  obtain ⟨ad, e, h1, h2⟩ := at_T133 h (k : Int) (by omega) (by omega)
  rw [rd_sRng hk] at h1 h2
  exact ⟨ad, e, by simpa using h1, by simpa using h2⟩
theorem split_int {K : Nat → Prop} {w0 W : World} {ts : List (Tree × Value)} {ps : List Pc} {bs : List (Nat × Obj)} (h : Env K w0 W ts ps bs) {t : Tree} {v : Value} (hm : (t, v) ∈ ts) {x : Int} (n : Nat) (hx : x = (n : Int)) (ha : n ≤ t.cells.length) (hsz : t.cells.length ≤ 536870912) : Calls Tryd.prog 72 #[v, .int .i64 x] W (Split K w0 ts ps bs t.cells n) := by
  subst hx
  exact split_env h hm ha hsz
def BumI (K : Nat → Prop) (w W : World) (cs : List (Int × Int)) (l : List (Nat × Nat)) (b : Int) (v9 v51 : Value) (wx : World) : Prop :=
  ∃ (i : Nat) (t : Tree) (q : Option Addr), v51 = .int .i64 (i : Int) ∧ i ≤ l.length ∧ v9 = .pointer q ∧ Env K w wx [(t, .pointer q)] [] [] ∧ t.cells = bumpC cs (l.take i) b ∧ Below W.heap.size W wx
theorem BumI.mk {K : Nat → Prop} {w W wx : World} {cs : List (Int × Int)} {l : List (Nat × Nat)} {b : Int} {v9 : Value} {x : Int} (i : Nat) (t : Tree) (hx : x = (i : Int)) (hi : i ≤ l.length) (hE : Env K w wx [(t, v9)] [] []) (hc : t.cells = bumpC cs (l.take i) b) (hB : Below W.heap.size W wx) : BumI K w W cs l b v9 (.int .i64 x) wx := by
  obtain ⟨q, rfl⟩ := (hE.t _ List.mem_cons_self).rep.ptr
  exact ⟨i, t, q, by rw [hx], hi, rfl, hE, hc, hB⟩
theorem Sums_min {t : Tree} {x : Int} (h : t.Good 0) (hne : t.cells ≠ []) : ((∀ c ∈ t.cells, c.2 ≠ x) → t.sm.mi ≠ x) ∧ ((∀ c ∈ t.cells, c.2 ≠ x) → t.sm.ma ≠ x) := by
  obtain ⟨⟨a, ha, ea⟩, ⟨d, hd, ed⟩⟩ := h.sums.some_ hne
  exact ⟨fun hx e => hx a ha (by omega), fun hx e => hx d hd (by omega)⟩
theorem mid_ne {cs : List (Int × Int)} {lo hi : Nat} (h1 : lo < hi) (h2 : hi ≤ cs.length) : (cs.take hi).drop lo ≠ [] := by
  intro h
  have := congrArg List.length h
  rw [List.length_drop, List.length_take] at this
  simp at this
  omega
theorem ok_inhid {l : List (Int × Int)} {b : Int} (h : ∀ c ∈ l, 0 ≤ c.2 + b ∧ c.2 + b ≤ 1048576) : InHid l b := fun c hc => ⟨(h c hc).1, by have := (h c hc).2; omega⟩
theorem bump_mid {cs C : List (Int × Int)} {lo hi : Nat} {a b m r : List (Int × Int)} (h : (C.take hi).drop lo = (cs.take hi).drop lo) (ha : a = C.take lo) (hb : b = C.drop lo) (hm : m = b.take (hi - lo)) (hr : r = b.drop (hi - lo)) (hl : lo ≤ hi) : m = (cs.take hi).drop lo ∧ m = (C.take hi).drop lo ∧ r = C.drop hi := by
  have e : m = (C.take hi).drop lo := by rw [hm, hb, List.drop_take]
  refine ⟨by rw [e, h], e, ?_⟩
  rw [hr, hb, List.drop_drop]
  congr 1
  omega
set_option maxRecDepth 100000 in
set_option maxHeartbeats 32000000 in
theorem bump_up {K : Nat → Prop} {w : World} {b : Nat} {t : Tree} (h : RopeAt K w b t) {l : List (Nat × Nat)} (hN : Norm l t.cells.length) (hok : BumpOk t.cells l (1)) (hsz : t.cells.length ≤ 1048576) {A : Option Addr} {c : Nat} (hA : Kd.C k133 w A l.length (sRng l)) (hc : l.length ≤ c) :
    Calls Tryd.prog 39 #[.pointer (some ⟨b, 0, none⟩), .slice A l.length c, .int .i64 (1)] w fun e w' => ∃ t', e = .returned (.int .i64 0) ∧ RopeAt (Kr K w.heap.size) w' b t' ∧ t'.cells = bumpC t.cells l (1) ∧ w.grownBy w' (some b) := by
  obtain ⟨p0, hv, hE, hn, hlt⟩ := h.blk
  obtain ⟨cs, hcs⟩ : ∃ cs, cs = t.cells := ⟨_, rfl⟩
  rw [← hcs] at hN hok hsz ⊢
  have hlb := hN.len
  have hch := fun (W : World) (hW : Below w.heap.size w W) => check_calls hN hsz (Kd.C_below hA hW) hc
  have HCH := Lib.hid hch
  have HCS := Lib.hid hcs
  have HSZ := Lib.hid hsz
  have HV := Lib.hid hv
  have HLT := Lib.hid hlt
  have HOK := Lib.hid hok
  have HNM := Lib.hid hN
  have lb : (l.length : Int) ≤ 32768 := by omega
  have b1 : (cs.length : Int) ≤ 1048576 := by omega
  clear hch hcs hsz hv hok hlt hN hlb
  go_enter Tryd.func39, Tryd.ntmps39
  go_wp2_with (go_at_call 37; refine (HCH.out w (Below.refl _ _)).mono ?_; rintro e w1 ⟨rfl, hb1⟩)
  go_cut [6, 44] from 30 to 44 (fun v6 v44 wx => v6 = .int .i64 0 ∧ v44 = .bool false ∧ Below w.heap.size w wx)
  case first =>
    by_cases hl0 : l.length = 0
    · have d0 : decide (0 < l.length) = false := decide_eq_false (by omega)
      clear hl0
      go_quiet (fail)
      go_wp2
      go_meet
      exact ⟨rfl, rfl, pw_below_drewN hb1 _⟩
    · obtain ⟨ad, hAd, y0, y1⟩ := rng_cell hA (k := l.length - 1) (by omega)
      subst hAd
      have d0 : decide (0 < l.length) = true := decide_eq_true (by omega)
      have hone := (HNM.out.one _ (List.getElem_mem (show l.length - 1 < l.length by omega))).2
      obtain ⟨R, hR⟩ : ∃ R, R = l[l.length - 1].2 := ⟨_, rfl⟩
      rw [← hR] at y1 hone
      obtain ⟨j, hj⟩ : ∃ j : Int, (l.length : Int) - 1 = j := ⟨_, rfl⟩
      have wk : IntKind.i64.wrap ((l.length : Int) - 1) = j := ((IntWalk.i64_left _).trans (w64 (by omega) (by omega))).trans hj
      have kn : l.length - 1 = j.toNat := by omega
      rw [kn] at y1
      have g0 : (0 ≤ j) = True := eq_true (by omega)
      have g1 : (j < (l.length : Int)) = True := eq_true (by omega)
      have d2 : decide (t.cells.length < R) = false := decide_eq_false (by rw [← HCS.out]; omega)
      have y2 := pw_cell_below hb1 y1
      clear hl0 y0 y1 kn hj hone hR
      have q0 := y2
      have q1 := y2
      go_region_held3 (fun W' => W'.cell? ⟨(ad.add (j.toNat * 2)).block, (ad.add (j.toNat * 2)).off + 1, none⟩ = some (.int .i64 (R : Int)))
        (first | exact q0 | exact q1 | fail)
        (first | (go_at_call 19; refine (total_calls (h.below (pw_below_drewN hb1 _))).mono ?_; rintro e w4 ⟨rfl, hb4⟩; have q1 := pw_cell_below hb4 (show (World.drewN _ _).cell? _ = _ from q0)) | fail)
      go_wp2
      go_meet
      exact ⟨rfl, rfl, hb1.trans ((pw_below_drewN (Below.refl _ w1) 1).trans hb4 |>.mono hb1.size)⟩
  case rest =>
    obtain ⟨rfl, rfl, hB⟩ := hcut
    have hc0 := (box_cell HV.out hB).1
    go_wp2
    go_loopw [9, 51] (fun v9 v51 wx => BumI (Kr K w.heap.size) w w cs l (1) v9 v51 wx) (fun _ i _ => l.length - (intOf i).toNat)
    case atStart => exact BumI.mk 0 t rfl (Nat.zero_le _) (hE.below hB) (by rw [HCS.out]; rfl) hB
    case round =>
      obtain ⟨i, ti, q, rfl, hil, rfl, hEi, hci, hBi⟩ := hrel
      by_cases hlt : i < l.length
      · obtain ⟨ad, hAd, y0, y1⟩ := rng_cell hA hlt
        subst hAd
        have z0 := pw_cell_below hBi y0
        have z1 := pw_cell_below hBi y1
        obtain ⟨g1, g2⟩ := HNM.out.one _ (List.getElem_mem hlt)
        have hln := (bumpC_inv (b := 1) HNM.out i hil).1
        have hmid := bumpC_mid (b := 1) HNM.out hlt
        have hok1 := HOK.out _ (List.getElem_mem hlt)
        have htk := bumpC_take (cs := cs) (b := 1) hlt
        obtain ⟨⟨lo, hi⟩, hrr⟩ : ∃ x, l[i] = x := ⟨_, rfl⟩
        rw [hrr] at z0 z1 g1 g2 hmid hok1 htk
        dsimp only at z0 z1 g1 g2 hmid hok1
        rw [← hci] at hln hmid htk
        have hsz := HSZ.out
        obtain ⟨x, hx⟩ : ∃ x : Int, x = ((hi - lo : Nat) : Int) := ⟨_, rfl⟩
        have wx1 : IntKind.i64.wrap ((hi : Int) - (lo : Int)) = x := ((IntWalk.i64_left _).trans (w64 (by omega) (by omega))).trans (by omega)
        have u1 : (i : Int) ≤ 1048576 := by omega
        have G1 := Lib.hid g1
        have G2 := Lib.hid g2
        have HLN := Lib.hid hln
        have HX := Lib.hid hx
        have HMID := Lib.hid hmid
        have HTK := Lib.hid htk
        have HOK1 := Lib.hid hok1
        clear y0 y1 g1 g2 hln hx hmid htk hok1 hsz hrr
        have tok : True := trivial
        have tok2 : True := trivial
        have e0 := (hEi.box (.cells #[.int .i64 (lo : Int), .int .i64 (hi : Int)] 133))
        go_wp2_with (first
          | (go_at_call 72; (clear tok; refine (split_int e0 List.mem_cons_self lo rfl (by have := HLN.out; have := G1.out; have := G2.out; omega) (by have := HLN.out; have := HSZ.out; omega)).mono ?_; rintro e w2 ⟨ta, tb, va, vb, rfl, hE2, hca, hcb⟩; have hx2 := cells2k (hE2.b _ List.mem_cons_self); obtain ⟨c0, c1⟩ := hx2))
          | (go_at_call 72; refine (split_int hE2 (List.mem_cons_of_mem _ List.mem_cons_self) (hi - lo) HX.out (by rw [hcb, List.length_drop]; have := HLN.out; have := G1.out; have := G2.out; omega) (by rw [hcb, List.length_drop]; have := HLN.out; have := HSZ.out; omega)).mono ?_; rintro e w3 ⟨tm, tr, vm, vr, rfl, hE3, hcm, hcr⟩; have hcc := bump_mid HMID.out hca hcb hcm hcr (Nat.le_of_lt G1.out); obtain ⟨q1, q2, q3⟩ := hcc)
          | (go_at_call 58; refine (all_env hE3 List.mem_cons_self).mono ?_; rintro e w4 ⟨rfl, hE4⟩; have hmm := Sums_min (x := 1048576) (hE4.t _ List.mem_cons_self).good (by rw [q1]; exact mid_ne G1.out (by have := G2.out; omega)); obtain ⟨hm1, hm2⟩ := hmm; have hmb : (tm.sm.ma == 1048576) = false := beq_eq_false_iff_ne.mpr (hm2 (by rw [q1]; intro c hc; have := HOK1.out c hc; omega)); clear hm1 hm2)
          | (go_at_call 75; refine (lift_env hE4 List.mem_cons_self (by decide) (Tree.Good.of_cells (hE4.t _ List.mem_cons_self).good (by rw [q1]; exact ok_inhid HOK1.out))).mono ?_; rintro e w5 ⟨t5, v5, rfl, hE5, hc5, _, _⟩)
          | (go_at_call 73; clear tok2; refine (mend_env hE5 (l := ta) (r := t5) (List.mem_cons_of_mem _ (List.mem_cons_of_mem _ (List.mem_cons_of_mem _ List.mem_cons_self))) List.mem_cons_self (by rw [hca, hc5, q2, List.length_map, List.length_drop, List.length_take, List.length_take]; have := HLN.out; have := G1.out; have := G2.out; have := HSZ.out; omega)).mono ?_; rintro e w6 ⟨t6, p6, rfl, hE6, hc6⟩)
          | (go_at_call 73; refine (mend_env hE6 (l := t6) (r := tr) List.mem_cons_self (List.mem_cons_of_mem _ (List.mem_cons_of_mem _ (List.mem_cons_of_mem _ List.mem_cons_self))) (by rw [hc6, hca, hc5, q2, q3, List.length_append, List.length_map, List.length_drop, List.length_take, List.length_take, List.length_drop]; have := HLN.out; have := G1.out; have := G2.out; have := HSZ.out; omega)).mono ?_; rintro e w7 ⟨t7, p7, rfl, hE7, hc7⟩))
        go_roundw
        case rel => exact BumI.mk (i + 1) t7 (by go_num) hlt (hE7.sub (fun x hx => by rw [List.mem_singleton.1 hx]; exact List.mem_cons_self) (by simp) (by simp)) (by rw [HTK.out, hc7, hc6, hca, hc5, q2, q3]; rfl) hE7.bel
        case measure => simp [intOf]; omega
      · have hil2 : i = l.length := by omega
        subst hil2
        rw [List.take_length] at hci
        clear hlt hil
        have hx0 := box_cell HV.out hBi
        obtain ⟨z0, z1⟩ := hx0
        have hla := Nat.lt_of_lt_of_le HLT.out hBi.size
        have d1 : decide (l.length < l.length) = false := decide_eq_false (Nat.lt_irrefl _)
        go_wp2
        go_ret
        exact ⟨ti, rfl, RopeAt.put HV.out hn hEi, hci, grown_after hBi grown_set⟩
set_option maxRecDepth 100000 in
set_option maxHeartbeats 32000000 in
theorem bump_down {K : Nat → Prop} {w : World} {b : Nat} {t : Tree} (h : RopeAt K w b t) {l : List (Nat × Nat)} (hN : Norm l t.cells.length) (hok : BumpOk t.cells l (-1)) (hsz : t.cells.length ≤ 1048576) {A : Option Addr} {c : Nat} (hA : Kd.C k133 w A l.length (sRng l)) (hc : l.length ≤ c) :
    Calls Tryd.prog 39 #[.pointer (some ⟨b, 0, none⟩), .slice A l.length c, .int .i64 (-1)] w fun e w' => ∃ t', e = .returned (.int .i64 0) ∧ RopeAt (Kr K w.heap.size) w' b t' ∧ t'.cells = bumpC t.cells l (-1) ∧ w.grownBy w' (some b) := by
  obtain ⟨p0, hv, hE, hn, hlt⟩ := h.blk
  obtain ⟨cs, hcs⟩ : ∃ cs, cs = t.cells := ⟨_, rfl⟩
  rw [← hcs] at hN hok hsz ⊢
  have hlb := hN.len
  have hch := fun (W : World) (hW : Below w.heap.size w W) => check_calls hN hsz (Kd.C_below hA hW) hc
  have HCH := Lib.hid hch
  have HCS := Lib.hid hcs
  have HSZ := Lib.hid hsz
  have HV := Lib.hid hv
  have HLT := Lib.hid hlt
  have HOK := Lib.hid hok
  have HNM := Lib.hid hN
  have lb : (l.length : Int) ≤ 32768 := by omega
  have b1 : (cs.length : Int) ≤ 1048576 := by omega
  clear hch hcs hsz hv hok hlt hN hlb
  go_enter Tryd.func39, Tryd.ntmps39
  go_wp2_with (go_at_call 37; refine (HCH.out w (Below.refl _ _)).mono ?_; rintro e w1 ⟨rfl, hb1⟩)
  go_cut [6, 44] from 30 to 44 (fun v6 v44 wx => v6 = .int .i64 0 ∧ v44 = .bool false ∧ Below w.heap.size w wx)
  case first =>
    by_cases hl0 : l.length = 0
    · have d0 : decide (0 < l.length) = false := decide_eq_false (by omega)
      clear hl0
      go_quiet (fail)
      go_wp2
      go_meet
      exact ⟨rfl, rfl, pw_below_drewN hb1 _⟩
    · obtain ⟨ad, hAd, y0, y1⟩ := rng_cell hA (k := l.length - 1) (by omega)
      subst hAd
      have d0 : decide (0 < l.length) = true := decide_eq_true (by omega)
      have hone := (HNM.out.one _ (List.getElem_mem (show l.length - 1 < l.length by omega))).2
      obtain ⟨R, hR⟩ : ∃ R, R = l[l.length - 1].2 := ⟨_, rfl⟩
      rw [← hR] at y1 hone
      obtain ⟨j, hj⟩ : ∃ j : Int, (l.length : Int) - 1 = j := ⟨_, rfl⟩
      have wk : IntKind.i64.wrap ((l.length : Int) - 1) = j := ((IntWalk.i64_left _).trans (w64 (by omega) (by omega))).trans hj
      have kn : l.length - 1 = j.toNat := by omega
      rw [kn] at y1
      have g0 : (0 ≤ j) = True := eq_true (by omega)
      have g1 : (j < (l.length : Int)) = True := eq_true (by omega)
      have d2 : decide (t.cells.length < R) = false := decide_eq_false (by rw [← HCS.out]; omega)
      have y2 := pw_cell_below hb1 y1
      clear hl0 y0 y1 kn hj hone hR
      have q0 := y2
      have q1 := y2
      go_region_held3 (fun W' => W'.cell? ⟨(ad.add (j.toNat * 2)).block, (ad.add (j.toNat * 2)).off + 1, none⟩ = some (.int .i64 (R : Int)))
        (first | exact q0 | exact q1 | fail)
        (first | (go_at_call 19; refine (total_calls (h.below (pw_below_drewN hb1 _))).mono ?_; rintro e w4 ⟨rfl, hb4⟩; have q1 := pw_cell_below hb4 (show (World.drewN _ _).cell? _ = _ from q0)) | fail)
      go_wp2
      go_meet
      exact ⟨rfl, rfl, hb1.trans ((pw_below_drewN (Below.refl _ w1) 1).trans hb4 |>.mono hb1.size)⟩
  case rest =>
    obtain ⟨rfl, rfl, hB⟩ := hcut
    have hc0 := (box_cell HV.out hB).1
    go_wp2
    go_loopw [9, 51] (fun v9 v51 wx => BumI (Kr K w.heap.size) w w cs l (-1) v9 v51 wx) (fun _ i _ => l.length - (intOf i).toNat)
    case atStart => exact BumI.mk 0 t rfl (Nat.zero_le _) (hE.below hB) (by rw [HCS.out]; rfl) hB
    case round =>
      obtain ⟨i, ti, q, rfl, hil, rfl, hEi, hci, hBi⟩ := hrel
      by_cases hlt : i < l.length
      · obtain ⟨ad, hAd, y0, y1⟩ := rng_cell hA hlt
        subst hAd
        have z0 := pw_cell_below hBi y0
        have z1 := pw_cell_below hBi y1
        obtain ⟨g1, g2⟩ := HNM.out.one _ (List.getElem_mem hlt)
        have hln := (bumpC_inv (b := (-1)) HNM.out i hil).1
        have hmid := bumpC_mid (b := (-1)) HNM.out hlt
        have hok1 := HOK.out _ (List.getElem_mem hlt)
        have htk := bumpC_take (cs := cs) (b := (-1)) hlt
        obtain ⟨⟨lo, hi⟩, hrr⟩ : ∃ x, l[i] = x := ⟨_, rfl⟩
        rw [hrr] at z0 z1 g1 g2 hmid hok1 htk
        dsimp only at z0 z1 g1 g2 hmid hok1
        rw [← hci] at hln hmid htk
        have hsz := HSZ.out
        obtain ⟨x, hx⟩ : ∃ x : Int, x = ((hi - lo : Nat) : Int) := ⟨_, rfl⟩
        have wx1 : IntKind.i64.wrap ((hi : Int) - (lo : Int)) = x := ((IntWalk.i64_left _).trans (w64 (by omega) (by omega))).trans (by omega)
        have u1 : (i : Int) ≤ 1048576 := by omega
        have G1 := Lib.hid g1
        have G2 := Lib.hid g2
        have HLN := Lib.hid hln
        have HX := Lib.hid hx
        have HMID := Lib.hid hmid
        have HTK := Lib.hid htk
        have HOK1 := Lib.hid hok1
        clear y0 y1 g1 g2 hln hx hmid htk hok1 hsz hrr
        have tok : True := trivial
        have tok2 : True := trivial
        have e0 := (hEi.box (.cells #[.int .i64 (lo : Int), .int .i64 (hi : Int)] 133))
        go_wp2_with (first
          | (go_at_call 72; (clear tok; refine (split_int e0 List.mem_cons_self lo rfl (by have := HLN.out; have := G1.out; have := G2.out; omega) (by have := HLN.out; have := HSZ.out; omega)).mono ?_; rintro e w2 ⟨ta, tb, va, vb, rfl, hE2, hca, hcb⟩; have hx2 := cells2k (hE2.b _ List.mem_cons_self); obtain ⟨c0, c1⟩ := hx2))
          | (go_at_call 72; refine (split_int hE2 (List.mem_cons_of_mem _ List.mem_cons_self) (hi - lo) HX.out (by rw [hcb, List.length_drop]; have := HLN.out; have := G1.out; have := G2.out; omega) (by rw [hcb, List.length_drop]; have := HLN.out; have := HSZ.out; omega)).mono ?_; rintro e w3 ⟨tm, tr, vm, vr, rfl, hE3, hcm, hcr⟩; have hcc := bump_mid HMID.out hca hcb hcm hcr (Nat.le_of_lt G1.out); obtain ⟨q1, q2, q3⟩ := hcc)
          | (go_at_call 58; refine (all_env hE3 List.mem_cons_self).mono ?_; rintro e w4 ⟨rfl, hE4⟩; have hmm := Sums_min (x := 0) (hE4.t _ List.mem_cons_self).good (by rw [q1]; exact mid_ne G1.out (by have := G2.out; omega)); obtain ⟨hm1, hm2⟩ := hmm; have hmb : (tm.sm.mi == 0) = false := beq_eq_false_iff_ne.mpr (hm1 (by rw [q1]; intro c hc; have := HOK1.out c hc; omega)); clear hm1 hm2)
          | (go_at_call 75; refine (lift_env hE4 List.mem_cons_self (by decide) (Tree.Good.of_cells (hE4.t _ List.mem_cons_self).good (by rw [q1]; exact ok_inhid HOK1.out))).mono ?_; rintro e w5 ⟨t5, v5, rfl, hE5, hc5, _, _⟩)
          | (go_at_call 73; clear tok2; refine (mend_env hE5 (l := ta) (r := t5) (List.mem_cons_of_mem _ (List.mem_cons_of_mem _ (List.mem_cons_of_mem _ List.mem_cons_self))) List.mem_cons_self (by rw [hca, hc5, q2, List.length_map, List.length_drop, List.length_take, List.length_take]; have := HLN.out; have := G1.out; have := G2.out; have := HSZ.out; omega)).mono ?_; rintro e w6 ⟨t6, p6, rfl, hE6, hc6⟩)
          | (go_at_call 73; refine (mend_env hE6 (l := t6) (r := tr) List.mem_cons_self (List.mem_cons_of_mem _ (List.mem_cons_of_mem _ (List.mem_cons_of_mem _ List.mem_cons_self))) (by rw [hc6, hca, hc5, q2, q3, List.length_append, List.length_map, List.length_drop, List.length_take, List.length_take, List.length_drop]; have := HLN.out; have := G1.out; have := G2.out; have := HSZ.out; omega)).mono ?_; rintro e w7 ⟨t7, p7, rfl, hE7, hc7⟩))
        go_roundw
        case rel => exact BumI.mk (i + 1) t7 (by go_num) hlt (hE7.sub (fun x hx => by rw [List.mem_singleton.1 hx]; exact List.mem_cons_self) (by simp) (by simp)) (by rw [HTK.out, hc7, hc6, hca, hc5, q2, q3]; rfl) hE7.bel
        case measure => simp [intOf]; omega
      · have hil2 : i = l.length := by omega
        subst hil2
        rw [List.take_length] at hci
        clear hlt hil
        have hx0 := box_cell HV.out hBi
        obtain ⟨z0, z1⟩ := hx0
        have hla := Nat.lt_of_lt_of_le HLT.out hBi.size
        have d1 : decide (l.length < l.length) = false := decide_eq_false (Nat.lt_irrefl _)
        go_wp2
        go_ret
        exact ⟨ti, rfl, RopeAt.put HV.out hn hEi, hci, grown_after hBi grown_set⟩
end Go.Proofs.YteeigokkafcaaaaDoorRope
end
section
namespace Go.Proofs.YteeigokkafcaaaaDoorRope
open Go.RowKit Go.Proofs.YteeigokkafcaaaaDoorW.PrintWords Go.Proofs.YteeigokkafcaaaaDoorW.PrintMore
set_option linter.unusedSimpArgs false
set_option linter.unusedVariables false
def Rpo (M : Nat → Prop) (W : World) : Tree → Value → Prop
  | .nil, v => v = .pointer none
  | .node l rs hid r plus, v => ∃ a vl vr A c, v = .pointer (some ⟨a, 0, none⟩) ∧ W.heap[a]? = some (.cells (nodeCells (.node l rs hid r plus) vl vr A c) 153 (0, 0)) ∧ rs.length ≤ c ∧ RunesAt W A rs ∧ (∀ ad, A = some ad → M ad.block) ∧ Rpo M W l vl ∧ Rpo M W r vr
theorem Rpo.of {K : Nat → Prop} {W : World} {t : Tree} : ∀ {v : Value}, Rep K W t v → Rpo K W t v := by
  induction t with
  | nil => intro v h; exact h
  | node l rs hid r plus ihl ihr =>
    rintro v ⟨a, vl, vr, A, c, rfl, hh, ha, hc, hr, hA, h1, h2⟩
    exact ⟨a, vl, vr, A, c, rfl, hh, hc, hr, hA, ihl h1, ihr h2⟩
theorem Rpo.rep {M : Nat → Prop} {W : World} {t : Tree} : ∀ {v : Value}, Rpo M W t v → Rep (fun _ => True) W t v := by
  induction t with
  | nil => intro v h; exact h
  | node l rs hid r plus ihl ihr =>
    rintro v ⟨a, vl, vr, A, c, rfl, hh, hc, hr, hA, h1, h2⟩
    exact ⟨a, vl, vr, A, c, rfl, hh, trivial, hc, hr, fun _ _ => trivial, ihl h1, ihr h2⟩
theorem Rpo.ptr {M : Nat → Prop} {W : World} {t : Tree} {v : Value} (h : Rpo M W t v) : ∃ p, v = .pointer p := h.rep.ptr
theorem Rpo.move {M : Nat → Prop} {t : Tree} : ∀ {W W' : World} {v : Value}, Rpo M W t v → (∀ (k : Nat) (c : Array Value), W.heap[k]? = some (Obj.cells c 153 (0, 0)) → W'.heap[k]? = some (Obj.cells c 153 (0, 0))) → (∀ k, M k → k < W.heap.size → W'.heap[k]? = W.heap[k]?) → Rpo M W' t v := by
  induction t with
  | nil => intro W W' v h _ _; exact h
  | node l rs hid r plus ihl ihr =>
    rintro W W' v ⟨a, vl, vr, A, c, rfl, hh, hc, hr, hA, h1, h2⟩ hn hm
    exact ⟨a, vl, vr, A, c, rfl, hn _ _ hh, hc, hr.move (fun ad e h => hm _ (hA ad e) h), hA, ihl h1 hn hm, ihr h2 hn hm⟩
theorem Rpo.below {M : Nat → Prop} {t : Tree} {W W' : World} {v : Value} (h : Rpo M W t v) (hb : Below W.heap.size W W') : Rpo M W' t v :=
  h.move (fun k c hk => (hb.block k (new_lt hk)).trans hk) (fun k _ hk => hb.block k hk)
theorem Rpo.drewIff {M : Nat → Prop} {W : World} {t : Tree} {v : Value} : Rpo M W.drew t v ↔ Rpo M W t v := ⟨fun h => Rpo.below h (show Below W.drew.heap.size W.drew W from ⟨rfl, rfl, rfl, Nat.le_refl _, fun _ _ => rfl⟩), fun h => Rpo.below h (Below.refl _ W).drew⟩
attribute [local simp] Rpo.drewIff
theorem Rpo.set2 {M : Nat → Prop} {W : World} {t : Tree} {v : Value} {P : Nat} {u1 u2 : Value} (h : Rpo M W t v) {c : Array Value} (hP : W.heap[P]? = some (.cells c 113 (0, 0))) (hM : ¬ M P) : Rpo M ((W.setCell ⟨P, 0, none⟩ u1).setCell ⟨P, 1, none⟩ u2) t v :=
  h.move (fun k c' hk => by
    have hne : k ≠ P := by
      rintro rfl
      rw [hP] at hk
      injection hk with hk
      injection hk with _ hk _
      exact absurd hk (by decide)
    exact (Below.heap_setCell _ _ _ _ (fun e => hne e)).trans ((Below.heap_setCell _ _ _ _ (fun e => hne e)).trans hk))
    (fun k hk _ => (Below.heap_setCell _ _ _ _ (fun e => hM (by rw [← show k = P from e]; exact hk))).trans (Below.heap_setCell _ _ _ _ (fun e => hM (by rw [← show k = P from e]; exact hk))))
theorem lift2_calls {M : Nat → Prop} {w : World} {t : Tree} {v : Value} {b : Int} (h : Rpo M w t v) (hg : t.Good b) (hb : -1048577 ≤ b ∧ b ≤ 1048577) : Calls Tryd.prog 75 #[v, .int .i64 b] w fun e w' => ∃ v', e = .returned v' ∧ Rpo M w' (t.lift b) v' ∧ Below w.heap.size w w' := by
  have hf := hg.fit hb
  cases t with
  | nil =>
    cases h
    exact (lift_nil b w).mono fun e w' ⟨he, hb⟩ => ⟨_, he, rfl, hb⟩
  | node l rs hid r plus =>
    obtain ⟨a, vl, vr, A, c, rfl, hh, hc, hr, hA, h1, h2⟩ := h
    have hlt := (Array.getElem?_eq_some_iff.1 hh).1
    obtain ⟨g1, g2, g3, g4, g5, g6, g7, g8, g9⟩ := hg
    by_cases hb0 : b = 0
    · subst hb0
      refine (lift_zero hlt (node_cell hh rfl) (node_cell hh rfl) (node_cell hh rfl) (node_cell hh rfl) (node_cell hh rfl) (node_cell hh rfl) hf.1.1 hf.1.2 hf.2.1 hf.2.2).mono ?_
      rintro e w' ⟨he, hb'⟩
      rw [lift_zero_tree]
      exact ⟨_, he, Rpo.below (t := .node l rs hid r plus) ⟨a, vl, vr, A, c, rfl, hh, hc, hr, hA, h1, h2⟩ hb', hb'⟩
    · refine (lift_node hb0 hlt hh h1.ptr h2.ptr (by omega) (by omega) hf.1.1 hf.1.2 hf.2.1 hf.2.2 (by omega) (by omega)).mono ?_
      rintro e w' ⟨g, he, hg', hgl, hb'⟩
      refine ⟨_, he, ⟨g, vl, vr, A, c, rfl, ?_, hc, Kd.C_below hr hb', hA, h1.below hb', h2.below hb'⟩, hb'⟩
      rw [hg']
      have e1 := sm_lift_node l rs hid r plus b
      simp only [nodeCells, e1]
      rfl
set_option maxRecDepth 100000 in
set_option maxHeartbeats 4000000 in
theorem open2_calls {M : Nat → Prop} {w : World} {l r : Tree} {rs : List Int} {hid plus : Int} {v : Value} (hK : ∀ k, M k → k < w.heap.size) (h : Rpo M w (.node l rs hid r plus) v) (hg : (Tree.node l rs hid r plus).Good 0) : Calls Tryd.prog 60 #[v] w fun e w' => ∃ v1 v2 A c, e = .returned (.tuple #[v1, .agg #[.slice A rs.length c, .int .i64 (hid + plus)], v2]) ∧ Rpo M w' (l.lift plus) v1 ∧ Rpo M w' (r.lift plus) v2 ∧ RunesAt w' A rs ∧ (∀ ad, A = some ad → M ad.block) ∧ rs.length ≤ c ∧ Below w.heap.size w w' := by
  obtain ⟨a, vl, vr, A, c, rfl, hh, hc, hr, hA, h1, h2⟩ := h
  obtain ⟨g1, g2, g3, g4, g5, g6, g7, g8, g9⟩ := hg
  rw [Int.add_zero] at g4 g5 g8 g9
  have hlt := (Array.getElem?_eq_some_iff.1 hh).1
  have c6 : w.cell? ⟨a, 6, none⟩ = some vl := node_cell hh rfl
  have c7 : w.cell? ⟨a, 7, none⟩ = some vr := node_cell hh rfl
  have c8 : w.cell? ⟨a, 8, none⟩ = some (.slice A rs.length c) := node_cell hh rfl
  have c9 : w.cell? ⟨a, 9, none⟩ = some (.int .i64 hid) := node_cell hh rfl
  have c10 : w.cell? ⟨a, 10, none⟩ = some (.int .i64 plus) := node_cell hh rfl
  obtain ⟨pl, rfl⟩ := h1.ptr
  obtain ⟨pr, rfl⟩ := h2.ptr
  have hpb : -1048577 ≤ plus ∧ plus ≤ 1048577 := by omega
  obtain ⟨hp1, hp2⟩ := hpb
  clear hh g6 g7
  go_enter Tryd.func60, Tryd.ntmps60
  go_wp2
  go_region
  all_goals
    obtain ⟨W3, hW3⟩ : ∃ W3, ((w.alloc (.cells #[.slice none 0 0, .int .i64 0] 113)).alloc (.cells #[.slice A rs.length c, .int .i64 (hid + plus)] 113)).drew = W3 := ⟨_, rfl⟩
    have hb3 : Below w.heap.size w W3 := by rw [← hW3]; (repeat first | exact Below.refl _ _ | assumption | refine Below.drew ?_ | refine Below.alloc ?_ (by simp; try omega) _ | refine Below.setCell ?_ (by simp; try omega) _)
    have z3 : W3.heap.size = w.heap.size + 1 + 1 := by rw [← hW3]; simp
    have pH : W3.drew.heap[w.heap.size]? = some (.cells #[.slice none 0 0, .int .i64 0] 113 (0, 0)) := by rw [← hW3]; exact ((Below.refl _ _).alloc (Nat.le_refl _) _).block _ (by simp) |>.trans (heap_new w _)
    have p0 : W3.cell? ⟨w.heap.size, 0, none⟩ = some (.slice none 0 0) := by rw [← hW3]; simp
    have p1 : W3.cell? ⟨w.heap.size, 1, none⟩ = some (.int .i64 0) := by rw [← hW3]; simp
    have pf : W3.frozen? ⟨w.heap.size, 0, none⟩ = false := by rw [← hW3]; simp
    have pf1 : W3.frozen? ⟨w.heap.size, 1, none⟩ = false := by rw [← hW3]; simp
    have q0 : W3.cell? ⟨w.heap.size + 1, 0, none⟩ = some (.slice A rs.length c) := by rw [← hW3]; simp
    have q1 : W3.cell? ⟨w.heap.size + 1, 1, none⟩ = some (.int .i64 (hid + plus)) := by rw [← hW3]; simp
    rw [hW3]
    have d6 := bcell hb3 c6
    have d7 := bcell hb3 c7
    have d10 := bcell hb3 c10
    have e1 := h1.below hb3
    have e2 := h2.below hb3
    have er := Kd.C_below hr hb3
    clear c6 c7 c8 c9 c10 h1 h2 hr hW3
    have tok1 : True := trivial
    have ea : w.heap.size ≠ a := by omega
    go_wp2
    go_region_held3 (fun W' => W'.cell? ⟨a, 6, none⟩ = some (.pointer pl) ∧ W'.cell? ⟨a, 7, none⟩ = some (.pointer pr) ∧ W'.cell? ⟨a, 10, none⟩ = some (.int .i64 plus) ∧ W'.cell? ⟨w.heap.size + 1, 0, none⟩ = some (.slice A rs.length c) ∧ W'.cell? ⟨w.heap.size + 1, 1, none⟩ = some (.int .i64 (hid + plus)) ∧ W3.heap.size ≤ W'.heap.size)
      (first
        | (go_keep; done)
        | (go_split_ands; refine ⟨?_, ?_, ?_, ?_, ?_, ?_⟩ <;> first | assumption | exact cell_set2 ea (by assumption) | exact cell_set2 (Nat.ne_of_lt (Nat.lt_succ_self _)) (by assumption) | exact size_set2 (by assumption) | exact bcell hb5 (by assumption) | exact bcell hb4 (by assumption) | exact Nat.le_trans (by assumption) hb5.size | exact hb4.size))
      (first
        | (go_at_call 75; clear tok1; refine (lift2_calls (M := M) (t := l) ?_ g8 ⟨hp1, hp2⟩).mono ?_; exact Rpo.drewIff.2 e1; rintro e w4 ⟨v1, rfl, hr4, hb4⟩)
        | (go_at_call 75; refine (lift2_calls (M := M) (t := r) ?_ g9 ⟨hp1, hp2⟩).mono ?_; exact Rpo.below (Rpo.drewIff.2 e2) hb4; rintro e w5 ⟨v2, rfl, hr5, hb5⟩; have hlx : w.heap.size < W3.drew.heap.size := (by simp; omega); have s0 := bcell hb5 (bcell hb4 (show W3.drew.cell? ⟨w.heap.size, 0, none⟩ = _ from p0)); have s1 := bcell hb5 (bcell hb4 (show W3.drew.cell? ⟨w.heap.size, 1, none⟩ = _ from p1)); have sf := bfroz hb5 (bfroz hb4 (show W3.drew.frozen? ⟨w.heap.size, 0, none⟩ = false from pf) hlx) (Nat.lt_of_lt_of_le hlx hb4.size); have sf1 := bfroz hb5 (bfroz hb4 (show W3.drew.frozen? ⟨w.heap.size, 1, none⟩ = false from pf1) hlx) (Nat.lt_of_lt_of_le hlx hb4.size)))
    go_wp2
    have hz4 := hb4.size
    have hz5 := hb5.size
    rw [World.size_drew, z3] at hz4
    refine bodyPost_ret (v := .tuple #[v1, .agg #[.slice A rs.length c, .int .i64 (hid + plus)], v2]) ?res rfl ⟨v1, v2, A, c, rfl, ?r1, ?r2, ?r3, hA, hc, ?r4⟩
    case res =>
      have hss := of_set2 (u1 := .slice A rs.length c) (u2 := .int .i64 (hid + plus)) s0 s1
      simp [results, Tryd.results60, go_sem, hss.1, hss.2]
    case r1 => exact Rpo.set2 (hr4.below hb5) ((hb5.block _ (Nat.lt_of_lt_of_le hlx hb4.size)).trans ((hb4.block _ hlx).trans pH)) (fun h => by have := hK _ h; omega)
    case r2 => exact Rpo.set2 hr5 ((hb5.block _ (Nat.lt_of_lt_of_le hlx hb4.size)).trans ((hb4.block _ hlx).trans pH)) (fun h => by have := hK _ h; omega)
    case r3 => exact RunesAt.set2 (Kd.C_below (Kd.C_below (Kd.C_drew er) hb4) hb5) (fun ad e => by have := hK _ (hA ad e); omega)
    case r4 => exact below_set2 (((hb3.drew).trans (hb4.mono (by simp; omega))).trans (hb5.mono (by omega))) (Nat.le_refl _)
end Go.Proofs.YteeigokkafcaaaaDoorRope
end
section
namespace Go.Proofs.YteeigokkafcaaaaDoorRope
open Go.RowKit Go.Proofs.YteeigokkafcaaaaDoorW.PrintWords Go.Proofs.YteeigokkafcaaaaDoorW.PrintMore
set_option linter.unusedSimpArgs false
set_option linter.unusedVariables false
attribute [local go_sem] run_field2 run_field0
structure KpW (B : Nat) (W W' : World) : Prop where
  b : Below B W W'
  n : ∀ (k : Nat) (c : Array Value) (ty : Nat), ty = 153 ∨ ty = 113 → W.heap[k]? = some (Obj.cells c ty (0, 0)) → W'.heap[k]? = some (Obj.cells c ty (0, 0))
theorem KpW.refl (B : Nat) (W : World) : KpW B W W := ⟨Below.refl _ _, fun _ _ _ _ h => h⟩
theorem KpW.trans {B : Nat} {A W W' : World} (h : KpW B A W) (k : KpW B W W') : KpW B A W' := ⟨h.b.trans k.b, fun i c ty ht hi => k.n i c ty ht (h.n i c ty ht hi)⟩
theorem KpW.of {B : Nat} {W W' : World} (h : Below W.heap.size W W') (hB : B ≤ W.heap.size) : KpW B W W' := ⟨h.mono hB, fun k c ty _ hk => (h.block k (new_lt hk)).trans hk⟩
theorem Rpo.kept {B : Nat} {W W' : World} {t : Tree} {v : Value} (h : Rpo (fun k => k < B) W t v) (hk : KpW B W W') : Rpo (fun k => k < B) W' t v :=
  h.move (fun k c hc => hk.n k c 153 (.inl rfl) hc) (fun k hkB _ => hk.b.block k hkB)
theorem RunesAt.kept {B : Nat} {W W' : World} {A : Option Addr} {l : List Int} (h : RunesAt W A l) (hA : ∀ ad, A = some ad → ad.block < B) (hk : KpW B W W') : RunesAt W' A l :=
  h.move (fun ad e _ => hk.b.block _ (hA ad e))
theorem all_len2 {M : Nat → Prop} {W : World} {t : Tree} {v : Value} (h : Rpo M W t v) (hg : t.Good 0) : Calls Tryd.prog 58 #[v] W fun e w' => ∃ x1 x2 x3 x4 x5 : Int, e = .returned (.agg #[.int .i64 (t.cells.length : Int), .int .i64 x1, .int .i64 x2, .int .i64 x3, .int .i64 x4, .int .i64 x5]) ∧ Below W.heap.size W w' :=
  (all_calls h.rep).mono fun e w' ⟨he, hb⟩ => ⟨t.sm.lv, t.ht, t.sm.mi, t.sm.am, t.sm.ma, by rw [he, smVal, hg.sums.tot], hb⟩
def At (C : List (Int × Int)) (n : Nat) (s : List (Int × Int)) : Prop := ∃ X Y, C = X ++ s ++ Y ∧ X.length = n
theorem At.le {C : List (Int × Int)} {n : Nat} {s : List (Int × Int)} (h : At C n s) : n + s.length ≤ C.length := by
  obtain ⟨X, Y, rfl, rfl⟩ := h
  simp only [List.length_append]
  omega
theorem At.split3 {C a b c : List (Int × Int)} {n : Nat} (h : At C n (a ++ b ++ c)) : At C n a ∧ At C (n + a.length) b ∧ At C (n + a.length + b.length) c := by
  obtain ⟨X, Y, rfl, rfl⟩ := h
  exact ⟨⟨X, b ++ c ++ Y, by simp, rfl⟩, ⟨X ++ a, c ++ Y, by simp, by simp⟩, ⟨X ++ a ++ b, Y, by simp, by simp [Nat.add_assoc]⟩⟩
theorem At.all (C : List (Int × Int)) : At C 0 C := ⟨[], [], by simp, rfl⟩
section
variable {B : Nat} {C : List (Int × Int)} {lo : Nat} {J : Nat → World → Prop} {Jx : World → Prop} {k0 k1 k2 : Value}
end
section
variable {B : Nat} {C : List (Int × Int)} {lo : Nat} {J : Nat → World → Prop} {Jx : World → Prop} {k0 k1 k2 : Value}
set_option maxRecDepth 100000 in
set_option maxHeartbeats 16000000 in
theorem walk_66 (hC : C.length ≤ 1048576) (hlo : lo ≤ 1048576)
    (hS : ∀ (at_ : Nat) (p : Pc) (W : World), J at_ W → lo < at_ + p.rs.length → At C at_ p.cells → RunesAt W p.A p.rs → (∀ ad, p.A = some ad → ad.block < B) → p.rs.length ≤ p.c → p.rs ≠ [] → 0 ≤ p.hid → B ≤ W.heap.size → Calls Tryd.prog 66 #[.int .i64 (at_ : Int), .agg #[.slice p.A p.rs.length p.c, .int .i64 p.hid], k0, k1, k2] W fun e w' => (e = .returned (.bool true) ∧ J (at_ + p.rs.length) w' ∧ KpW B W w') ∨ (e = .returned (.bool false) ∧ Jx w'))
    (hskip : ∀ (at_ n : Nat) (W : World), J at_ W → at_ + n ≤ lo → J (at_ + n) W)
    (hJ : ∀ (at_ : Nat) (W W' : World), J at_ W → Below W.heap.size W W' → J at_ W') :
    ∀ (n : Nat) (t : Tree) (v : Value) (W : World) (ahead : Nat), t.size ≤ n → Rpo (fun k => k < B) W t v → t.Good 0 → B ≤ W.heap.size → At C ahead t.cells → J ahead W →
    Calls Tryd.prog 65 #[v, .int .i64 (ahead : Int), .int .i64 (lo : Int), .func (.func 66) #[] #[k0, k1, k2]] W fun e w' => (e = .returned (.bool true) ∧ J (ahead + t.cells.length) w' ∧ KpW B W w') ∨ (e = .returned (.bool false) ∧ Jx w') := by
  intro n
  induction n with
  | zero =>
    intro t v W ahead hn h hg hB hc h0
    cases t with
    | nil =>
      cases h
      go_enter Tryd.func65, Tryd.ntmps65
      go_wp2
      go_ret
      exact .inl ⟨rfl, h0, KpW.refl _ _⟩
    | node l rs hid r plus => simp [Tree.size] at hn
  | succ n ih =>
    intro t v W ahead hn h hg hB hc h0
    cases t with
    | nil =>
      cases h
      go_enter Tryd.func65, Tryd.ntmps65
      go_wp2
      go_ret
      exact .inl ⟨rfl, h0, KpW.refl _ _⟩
    | node l rs hid r plus =>
      have h' := h
      obtain ⟨a, vl, vr, A, c, rfl, hh, hrc, hr, hA, h1, h2⟩ := h'
      have ct : W.cell? ⟨a, 0, none⟩ = some (.int .i64 ((Tree.node l rs hid r plus).cells.length : Int)) := by rw [← hg.sums.tot]; exact node_cell hh rfl
      clear h1 h2 hr hA hrc hh vl vr
      obtain ⟨T, hT⟩ : ∃ T, T = (Tree.node l rs hid r plus).cells.length := ⟨_, rfl⟩
      have hl := hc.le
      rw [← hT] at ct hl ⊢
      have bT : (ahead : Int) + (T : Int) ≤ 1048576 := by omega
      have bl : (lo : Int) ≤ 1048576 := by omega
      by_cases c1 : ahead + T ≤ lo
      · have d1 : decide ((ahead : Int) + (T : Int) ≤ (lo : Int)) = true := decide_eq_true (by omega)
        go_enter Tryd.func65, Tryd.ntmps65
        go_wp2
        go_ret
        exact .inl ⟨rfl, hskip _ _ _ h0 c1, KpW.refl _ _⟩
      · have d1 : decide ((ahead : Int) + (T : Int) ≤ (lo : Int)) = false := decide_eq_false (by omega)
        have hlc := len_cells l rs hid r plus
        rw [← hT] at hlc
        have hat := hc
        rw [cells_open] at hat
        obtain ⟨a1, a2, a3⟩ := hat.split3
        rw [List.length_map] at a3
        clear hat hc
        obtain ⟨g1, g2, g3, g4, g5, g6, g7, g8, g9⟩ := id hg
        rw [Int.add_zero] at g4 g5 g8 g9
        have gl : (l.lift plus).Good 0 := Tree.Good.lift (by simpa using g8)
        have gr : (r.lift plus).Good 0 := Tree.Good.lift (by simpa using g9)
        have hsl : (l.lift plus).size ≤ n := by rw [Tree.size_lift]; simp only [Tree.size] at hn; omega
        have hsr : (r.lift plus).size ≤ n := by rw [Tree.size_lift]; simp only [Tree.size] at hn; omega
        have hop := open2_calls (fun k hk => Nat.lt_of_lt_of_le hk hB) h hg
        have hhp : 0 ≤ hid + plus := by omega
        clear g2 g3 g4 g5 g6 g7 g8 g9 hg h
        obtain ⟨L, hL⟩ : ∃ L, L = (l.lift plus).cells.length := ⟨_, rfl⟩
        rw [← hL] at hlc a2 a3
        have bL : (ahead : Int) + (L : Int) ≤ 1048576 := by omega
        have bR : (ahead : Int) + (L : Int) + (rs.length : Int) ≤ 1048576 := by omega
        have HL := Lib.hid hL
        have HLC := Lib.hid hlc
        clear hL hlc hT bT c1 hn
        go_enter Tryd.func65, Tryd.ntmps65
        go_wp2_with (go_at_call 60; refine hop.mono ?_; rintro e w1 ⟨v1, v2, A1, d1, rfl, hr1, hr2, hra, hA1, hcap, hb1⟩)
        have hB1 : B ≤ w1.heap.size := Nat.le_trans hB hb1.size
        have kp1 := KpW.of hb1 hB
        obtain ⟨W2, hW2⟩ : ∃ W2, w1.alloc (.cells #[.slice A1 rs.length d1, .int .i64 (hid + plus)] 113) = W2 := ⟨_, rfl⟩
        have hba : Below w1.heap.size w1 W2 := by rw [← hW2]; exact below_alloc (Below.refl _ w1) _
        have hbx : W2.heap[w1.heap.size]? = some (Obj.cells #[.slice A1 rs.length d1, .int .i64 (hid + plus)] 113 (0, 0)) := by rw [← hW2]; exact heap_new _ _
        have kp2 := kp1.trans (KpW.of hba hB1)
        have hB2 : B ≤ W2.heap.size := Nat.le_trans hB1 hba.size
        have s1 := hr1.below hba
        have s2 := hr2.below hba
        have s3 := Kd.C_below hra hba
        have hj2 := hJ _ _ _ (hJ _ _ _ h0 hb1) hba
        rw [hW2]
        clear hr1 hr2 hra h0 hb1 hW2 hba kp1 hop ct
        generalize w1.heap.size = bx at hbx
        go_at_call 65
        refine (ih _ _ _ _ hsl s1 gl hB2 a1 hj2).mono ?_
        rintro e w3 (⟨rfl, hj3, kp3⟩ | ⟨rfl, hjx⟩)
        case inr =>
          simp only []
          go_at_K
          go_wp2
          go_ret
          exact .inr ⟨rfl, hjx⟩
        simp only []
        go_at_K
        rw [← HL.out] at hj3
        have hB3 : B ≤ w3.heap.size := Nat.le_trans hB2 kp3.b.size
        have s3 := RunesAt.kept s3 hA1 kp3
        have s1 := s1.kept kp3
        have s2 := s2.kept kp3
        have hbx := kp3.n _ _ _ (.inr rfl) hbx
        have kp3 := kp2.trans kp3
        by_cases c2 : lo < ahead + L + rs.length
        · have d2 : decide ((lo : Int) < (ahead : Int) + (L : Int) + (rs.length : Int)) = true := decide_eq_true (by omega)
          have a2l : At C (ahead + L) (Pc.cells ⟨rs, hid + plus, A1, d1⟩) := a2
          go_wp2_with (first
            | (go_at_call 58; refine (all_len2 s1 gl).mono ?_; rw [← HL.out]; rintro e w4 ⟨y1, y2, y3, y4, y5, rfl, hb4⟩; have hbx4 := (hb4.block _ (new_lt hbx)).trans hbx; have hz := cells2 hbx4; obtain ⟨z0, z1⟩ := hz; have kp4 := KpW.of hb4 hB3; have t2 := s2.below hb4; have t3 := Kd.C_below s3 hb4; have hj4 := hJ _ _ _ hj3 hb4; have hB4 := Nat.le_trans hB3 hb4.size)
            | (go_at_call 66; refine (hS (ahead + L) ⟨rs, hid + plus, A1, d1⟩ w4 hj4 c2 a2l t3 hA1 hcap g1 hhp hB4).mono ?_))
          rintro e w5 (⟨rfl, hj5, kp5⟩ | ⟨rfl, hjx⟩)
          case inr =>
            simp only []
            go_at_K
            go_wp2
            go_ret
            exact .inr ⟨rfl, hjx⟩
          simp only []
          go_at_K
          have hbx5 := kp5.n _ _ _ (.inr rfl) hbx4
          have hz := cells2 hbx5
          obtain ⟨z0, z1⟩ := hz
          have t2 := t2.kept kp5
          have hB5 := Nat.le_trans hB4 kp5.b.size
          have e0 : ((ahead : Int) + (L : Int) + (rs.length : Int)) = ((ahead + L + rs.length : Nat) : Int) := by omega
          have E0 := Lib.hid e0
          clear e0
          have kpA := kp3.trans (kp4.trans kp5)
          go_wp2_with (go_at_call 65; rw [E0.out]; refine (ih _ _ _ _ hsr t2 gr hB5 a3 hj5).mono ?_)
          rintro e w6 (⟨rfl, hj6, kp6⟩ | ⟨rfl, hjx⟩)
          case inr =>
            simp only []
            go_at_K
            go_wp2
            go_ret
            exact .inr ⟨rfl, hjx⟩
          simp only []
          go_at_K
          have hj7 : J (ahead + T) w6 := by rw [HLC.out, ← Nat.add_assoc, ← Nat.add_assoc]; exact hj6
          go_wp2
          go_ret
          exact .inl ⟨rfl, hj7, kpA.trans kp6⟩
        · have d2 : decide ((lo : Int) < (ahead : Int) + (L : Int) + (rs.length : Int)) = false := decide_eq_false (by omega)
          go_wp2_with (first
            | (go_at_call 58; refine (all_len2 s1 gl).mono ?_; rw [← HL.out]; rintro e w4 ⟨y1, y2, y3, y4, y5, rfl, hb4⟩; have hbx4 := (hb4.block _ (new_lt hbx)).trans hbx; have hz := cells2 hbx4; obtain ⟨z0, z1⟩ := hz; have kp4 := KpW.of hb4 hB3; have t2 := s2.below hb4; have t3 := Kd.C_below s3 hb4; have hj4 := hJ _ _ _ hj3 hb4; have hB4 := Nat.le_trans hB3 hb4.size))
          have hj5 : J (ahead + L + rs.length) w4 := hskip _ _ _ hj4 (by omega)
          have e0 : ((ahead : Int) + (L : Int) + (rs.length : Int)) = ((ahead + L + rs.length : Nat) : Int) := by omega
          have E0 := Lib.hid e0
          clear e0
          have kpA := kp3.trans kp4
          go_wp2_with (go_at_call 65; rw [E0.out]; refine (ih _ _ _ _ hsr t2 gr hB4 a3 hj5).mono ?_)
          rintro e w6 (⟨rfl, hj6, kp6⟩ | ⟨rfl, hjx⟩)
          case inr =>
            simp only []
            go_at_K
            go_wp2
            go_ret
            exact .inr ⟨rfl, hjx⟩
          simp only []
          go_at_K
          have hj7 : J (ahead + T) w6 := by rw [HLC.out, ← Nat.add_assoc, ← Nat.add_assoc]; exact hj6
          go_wp2
          go_ret
          exact .inl ⟨rfl, hj7, kpA.trans kp6⟩
end
end Go.Proofs.YteeigokkafcaaaaDoorRope
end
section
namespace Go.Proofs
open Go.Shelf
def Tryd.lays170_ren : Go.Shelf.Ren := ⟨fun | 170 => 62 | n => n, fun | 70 => 116 | 3 => 3 | 0 => 0 | 72 => 118 | 37 => 56 | 5 => 5 | n => n, fun | n => n⟩
theorem Tryd.lays170 : Go.Proofs.Lays.n170 Tryd.prog Tryd.lays170_ren := {
  mixed := by kernel_rfl
  f170 := Tryd.func62.trans (congrArg some (by kernel_rfl))
  t0 := Tryd.underlying0
  a0 := Tryd.isAgg0
  z0 := Tryd.sizeOf0
  v0 := Tryd.zeroValue0
  t3 := Tryd.underlying3
  a3 := Tryd.isAgg3
  z3 := Tryd.sizeOf3
  v3 := Tryd.zeroValue3
  t37 := Tryd.underlying56
  a37 := Tryd.isAgg56
  z37 := Tryd.sizeOf56
  v37 := Tryd.zeroValue56
  t70 := Tryd.underlying116
  a70 := Tryd.isAgg116
  z70 := Tryd.sizeOf116
  v70 := Tryd.zeroValue116
  t72 := Tryd.underlying118
  a72 := Tryd.isAgg118
  z72 := Tryd.sizeOf118
  v72 := Tryd.zeroValue118 }
def Tryd.lays169_ren : Go.Shelf.Ren := ⟨fun | 169 => 63 | n => n, fun | 70 => 116 | 9 => 9 | 0 => 0 | 72 => 118 | 37 => 56 | 127 => 154 | 3 => 3 | 5 => 5 | n => n, fun | n => n⟩
theorem Tryd.lays169 : Go.Proofs.Lays.n169 Tryd.prog Tryd.lays169_ren := {
  mixed := by kernel_rfl
  f169 := Tryd.func63.trans (congrArg some (by kernel_rfl))
  t0 := Tryd.underlying0
  a0 := Tryd.isAgg0
  z0 := Tryd.sizeOf0
  v0 := Tryd.zeroValue0
  t3 := Tryd.underlying3
  a3 := Tryd.isAgg3
  z3 := Tryd.sizeOf3
  v3 := Tryd.zeroValue3
  t9 := Tryd.underlying9
  a9 := Tryd.isAgg9
  z9 := Tryd.sizeOf9
  v9 := Tryd.zeroValue9
  t37 := Tryd.underlying56
  a37 := Tryd.isAgg56
  z37 := Tryd.sizeOf56
  v37 := Tryd.zeroValue56
  t70 := Tryd.underlying116
  a70 := Tryd.isAgg116
  z70 := Tryd.sizeOf116
  v70 := Tryd.zeroValue116
  t72 := Tryd.underlying118
  a72 := Tryd.isAgg118
  z72 := Tryd.sizeOf118
  v72 := Tryd.zeroValue118
  t127 := Tryd.underlying154
  a127 := Tryd.isAgg154
  z127 := Tryd.sizeOf154
  v127 := Tryd.zeroValue154 }
theorem Tryd.Builder_Extra_169 : Builder.Extra Tryd.prog Tryd.lays169_ren := {
  sizeBuilder := by kernel_rfl
  liesBuilder := by kernel_rfl
  t5 := Tryd.underlying5
  a5 := Tryd.isAgg5
  z5 := Tryd.sizeOf5
  v5 := Tryd.zeroValue5
  infoByte := by kernel_rfl
  cellsByte := by kernel_rfl
  sizeByte := by kernel_rfl
  neB5 := by decide }
open Go.RowKit in
theorem Tryd.Builder_Len_f (B b : Nat) (bs : List Value) (w : World) (h : Lib.IsBuilderF 118 5 B b bs w) :
    Calls Tryd.prog 62 #[.pointer (some ⟨b, 0, none⟩)] w fun e w' => e = .returned (.int .i64 bs.length) ∧ w' = w := Any.Builder_Len_f Tryd.lays170 B b bs w h
open Go.RowKit in
theorem Tryd.Builder_String_any_k (B b : Nat) (l : List UInt8) (w : World) (h : Lib.IsBuilderF 118 5 B b (Lib.byteCells l) w) (hBw : B ≤ w.heap.size) :
    Calls Tryd.prog 63 #[.pointer (some ⟨b, 0, none⟩)] w fun e w' => e = .returned (.string ⟨l.toArray⟩) ∧ (Lib.IsBuilderF 118 5 B b (Lib.byteCells l) w' ∧ Below B w w' ∧ Lib.OthersKept 5 (some b) w w') := Any.Builder_String_any_k Tryd.lays169 Tryd.Builder_Extra_169 B b l w h hBw
def Tryd.lays168_ren : Go.Shelf.Ren := ⟨fun | 168 => 67 | 240 => 99 | 242 => 100 | 276 => 127 | 278 => 128 | n => n, fun | 0 => 0 | 3 => 3 | 4 => 4 | 5 => 5 | 9 => 9 | 20 => 20 | 21 => 21 | 37 => 56 | 46 => 180 | 51 => 188 | 70 => 116 | 72 => 118 | 75 => 121 | 80 => 48 | 164 => 186 | n => n, fun | n => n⟩
theorem Tryd.lays168 : Go.Proofs.Lays.n168 Tryd.prog Tryd.lays168_ren := {
  mixed := by kernel_rfl
  f168 := Tryd.func67.trans (congrArg some (by kernel_rfl))
  f240 := Tryd.func99.trans (congrArg some (by kernel_rfl))
  f242 := Tryd.func100.trans (congrArg some (by kernel_rfl))
  f276 := Tryd.func127.trans (congrArg some (by kernel_rfl))
  f278 := Tryd.func128.trans (congrArg some (by kernel_rfl))
  t0 := Tryd.underlying0
  a0 := Tryd.isAgg0
  z0 := Tryd.sizeOf0
  v0 := Tryd.zeroValue0
  t3 := Tryd.underlying3
  a3 := Tryd.isAgg3
  z3 := Tryd.sizeOf3
  v3 := Tryd.zeroValue3
  t4 := Tryd.underlying4
  a4 := Tryd.isAgg4
  z4 := Tryd.sizeOf4
  v4 := Tryd.zeroValue4
  t5 := Tryd.underlying5
  a5 := Tryd.isAgg5
  z5 := Tryd.sizeOf5
  v5 := Tryd.zeroValue5
  t9 := Tryd.underlying9
  a9 := Tryd.isAgg9
  z9 := Tryd.sizeOf9
  v9 := Tryd.zeroValue9
  t20 := Tryd.underlying20
  a20 := Tryd.isAgg20
  z20 := Tryd.sizeOf20
  v20 := Tryd.zeroValue20
  t21 := Tryd.underlying21
  a21 := Tryd.isAgg21
  z21 := Tryd.sizeOf21
  v21 := Tryd.zeroValue21
  t37 := Tryd.underlying56
  a37 := Tryd.isAgg56
  z37 := Tryd.sizeOf56
  v37 := Tryd.zeroValue56
  t46 := Tryd.underlying180
  a46 := Tryd.isAgg180
  z46 := Tryd.sizeOf180
  v46 := Tryd.zeroValue180
  t51 := Tryd.underlying188
  a51 := Tryd.isAgg188
  z51 := Tryd.sizeOf188
  v51 := Tryd.zeroValue188
  t70 := Tryd.underlying116
  a70 := Tryd.isAgg116
  z70 := Tryd.sizeOf116
  v70 := Tryd.zeroValue116
  t72 := Tryd.underlying118
  a72 := Tryd.isAgg118
  z72 := Tryd.sizeOf118
  v72 := Tryd.zeroValue118
  t75 := Tryd.underlying121
  a75 := Tryd.isAgg121
  z75 := Tryd.sizeOf121
  v75 := Tryd.zeroValue121
  t164 := Tryd.underlying186
  a164 := Tryd.isAgg186
  z164 := Tryd.sizeOf186
  v164 := Tryd.zeroValue186
}
theorem Tryd.Builder_Extra_168 : Builder.Extra Tryd.prog Tryd.lays168_ren where
  sizeBuilder := by kernel_rfl
  liesBuilder := by kernel_rfl
  t5 := Tryd.underlying5
  a5 := Tryd.isAgg5
  z5 := Tryd.sizeOf5
  v5 := Tryd.zeroValue5
  infoByte := by kernel_rfl
  cellsByte := by kernel_rfl
  sizeByte := by kernel_rfl
  neB5 := by decide
open Go.RowKit in
theorem Tryd.Builder_WriteRune_k (B b : Nat) (bs : List Value) (r : Int) (hr0 : -2147483648 ≤ r) (hr1 : r ≤ 2147483647) (w : World) (h : Lib.IsBuilderF 118 5 B b bs w) (hlen : bs.length + 4 ≤ 140737488355328) (hBw : B ≤ w.heap.size) :
    Calls Tryd.prog 67 #[.pointer (some ⟨b, 0, none⟩), .int .i32 r] w fun e w' => e = .returned (.tuple #[.int .i64 (Lib.runeCells r).length, .nilIface]) ∧ (Lib.BuilderAtF 118 5 B b (.pointer (some ⟨b, 0, none⟩)) (bs ++ Lib.runeCells r) w' ∧ Below B w w' ∧ Lib.OthersKept 5 (some b) w w') := Any.Builder_WriteRune_k Tryd.lays168 Tryd.Builder_Extra_168 B b bs r hr0 hr1 w h hlen hBw
end Go.Proofs
end
section
namespace Go.Proofs.YteeigokkafcaaaaDoorRope
open Go.RowKit Go.Proofs.YteeigokkafcaaaaDoorW.PrintWords Go.Proofs.YteeigokkafcaaaaDoorW.PrintMore
set_option linter.unusedSimpArgs false
set_option linter.unusedVariables false
abbrev Bld (B b : Nat) (acc : List Int) (W : World) : Prop := Lib.IsBuilderF 118 5 B b (Lib.byteCells (utf acc)) W
theorem grown_of_below {W W' : World} (h : Below W.heap.size W W') : W.grownBy W' none := ⟨h.os, h.tape, h.output, h.size, fun k hk _ => h.block k hk⟩
theorem Bld.below {B b : Nat} {acc : List Int} {W W' : World} (h : Bld B b acc W) (hb : Below W.heap.size W W') : Bld B b acc W' := by
  refine h.imp ?_ ?_ <;>
    · rintro ⟨hB, v, hv, hown, hne⟩
      exact ⟨hB, v, (hb.block _ (new_lt hv)).trans hv, hown.kept (grown_of_below hb) (by cases hv : v.ownBlock <;> simp), hne⟩
theorem Bld.at {B b : Nat} {acc : List Int} {W : World} (h : Bld B b acc W) : B ≤ b ∧ ∃ c, W.heap[b]? = some (Obj.cells c 118 (0, 0)) := by
  rcases h with ⟨hB, v, hv, _⟩ | ⟨hB, v, hv, _⟩ <;> exact ⟨hB, _, hv⟩
structure KpB (B b : Nat) (W W' : World) : Prop where
  bl : Below B W W'
  o : Lib.OthersKept 5 (some b) W W'
theorem KpB.refl (B b : Nat) (W : World) : KpB B b W W := ⟨Below.refl _ _, Lib.OthersKept.refl _ _ _⟩
theorem KpB.trans {B b : Nat} {A W W' : World} (h : KpB B b A W) (k : KpB B b W W') : KpB B b A W' := ⟨h.bl.trans k.bl, h.o.trans k.o⟩
theorem KpB.of {B b : Nat} {W W' : World} (h : Below W.heap.size W W') (hB : B ≤ W.heap.size) : KpB B b W W' := ⟨h.mono hB, fun k o hk _ _ => (h.block k (new_lt hk)).trans hk⟩
theorem KpB.cells {B b : Nat} {W W' : World} (h : KpB B b W W') {k : Nat} {c : Array Value} {ty : Nat} {f : Nat × Nat} (hk : W.heap[k]? = some (Obj.cells c ty f)) (hty : ty ≠ 5) (hb : k ≠ b) : W'.heap[k]? = some (Obj.cells c ty f) :=
  h.o k _ hk (by simpa using hb) (fun c' f' e => by injection e with _ e _; exact hty e)
theorem KpB.kpw {B b : Nat} {W W' : World} (h : KpB B b W W') {c0 : Array Value} (hb : W.heap[b]? = some (Obj.cells c0 118 (0, 0))) : KpW B W W' :=
  ⟨h.bl, fun k c ty hty hk => h.cells hk (by rcases hty with rfl | rfl <;> decide) (by
    rintro rfl
    rw [hb] at hk
    injection hk with hk
    injection hk with _ hk _
    rcases hty with rfl | rfl <;> exact absurd hk (by decide))⟩
theorem utf_take {rs : List Int} {k : Nat} (hk : k < rs.length) : utf (rs.take (k + 1)) = utf (rs.take k) ++ Lib.encodeRune rs[k] := by
  rw [List.take_succ_eq_append_getElem hk, utf_append, utf_cons]
  simp [utf]
theorem byte_take {acc rs : List Int} {k : Nat} (hk : k < rs.length) : Lib.byteCells (utf (acc ++ rs.take k)) ++ Lib.runeCells rs[k] = Lib.byteCells (utf (acc ++ rs.take (k + 1))) := by
  rw [utf_append, utf_append, utf_take hk, Lib.byteCells_append, Lib.byteCells_append, Lib.byteCells_append, Lib.byteCells_encodeRune, List.append_assoc]
theorem byte_len (l : List Int) : (Lib.byteCells (utf l)).length ≤ 4 * l.length := by
  rw [Lib.byteCells_length]
  exact (utf_len l).2
end Go.Proofs.YteeigokkafcaaaaDoorRope
end
section
namespace Go.Proofs.YteeigokkafcaaaaDoorRope
open Go.RowKit Go.Proofs.YteeigokkafcaaaaDoorW.PrintWords Go.Proofs.YteeigokkafcaaaaDoorW.PrintMore
set_option linter.unusedSimpArgs false
set_option linter.unusedVariables false
attribute [local go_sem] max2_int min2_int
theorem cells1k {W : World} {g k : Nat} {a : Value} (h : W.heap[g]? = some (.cells #[a] k (0, 0))) : W.cell? ⟨g, 0, none⟩ = some a ∧ W.frozen? ⟨g, 0, none⟩ = false := by
  simp [World.cell?, World.frozen?, h]
theorem set1k {W : World} {g k : Nat} {a v : Value} (h : W.heap[g]? = some (.cells #[a] k (0, 0))) : (W.setCell ⟨g, 0, none⟩ v).heap[g]? = some (.cells #[v] k (0, 0)) := by
  simp [World.setCell, Array.getElem?_modify, h]
theorem set_other {W : World} {g k : Nat} {v : Value} {o : Obj} (h : W.heap[k]? = some o) (hne : k ≠ g) : (W.setCell ⟨g, 0, none⟩ v).heap[k]? = some o := by
  rw [Below.heap_setCell _ _ _ _ (fun e => hne e)]
  exact h
theorem ty_ne {W : World} {k g : Nat} {c c' : Array Value} {t t' : Nat} (h : W.heap[k]? = some (Obj.cells c t (0, 0))) (h' : W.heap[g]? = some (Obj.cells c' t' (0, 0))) (ht : t ≠ t') : k ≠ g := by
  rintro rfl
  rw [h] at h'
  injection h' with h'
  injection h' with _ h' _
  exact ht h'
theorem KpW.set {B : Nat} {W : World} {g : Nat} {c : Array Value} {v : Value} (hB : B ≤ g) (h : W.heap[g]? = some (Obj.cells c 3 (0, 0))) : KpW B W (W.setCell ⟨g, 0, none⟩ v) :=
  ⟨(Below.refl B W).setCell (p := ⟨g, 0, none⟩) hB v, fun k c' ty hty hk => set_other hk (ty_ne hk h (by rcases hty with rfl | rfl <;> decide))⟩
section
variable {B : Nat} {C : List (Int × Int)} {cap : Value} {In : List Nat → World → Prop} {w : World} {f m F L G : Nat}
end
section
variable {B : Nat} {C : List (Int × Int)} {cap : Value} {In : List Nat → World → Prop} {w : World} {f m F L G : Nat}
end
end Go.Proofs.YteeigokkafcaaaaDoorRope
end
section
namespace Go.Proofs.YteeigokkafcaaaaDoorRope
open Go.RowKit Go.Proofs.YteeigokkafcaaaaDoorW.PrintWords Go.Proofs.YteeigokkafcaaaaDoorW.PrintMore
set_option linter.unusedSimpArgs false
set_option linter.unusedVariables false
theorem Rpo.mono {M M' : Nat → Prop} (hM : ∀ k, M k → M' k) {W : World} {t : Tree} : ∀ {v : Value}, Rpo M W t v → Rpo M' W t v := by
  induction t with
  | nil => intro v h; exact h
  | node l rs hid r plus ihl ihr =>
    rintro v ⟨a, vl, vr, A, c, rfl, hh, hc, hr, hA, h1, h2⟩
    exact ⟨a, vl, vr, A, c, rfl, hh, hc, hr, fun ad e => hM _ (hA ad e), ihl h1, ihr h2⟩
theorem Bld.set {B b : Nat} {acc : List Int} {W : World} (h : Bld B b acc W) {k : Nat} {c : Array Value} (v : Value) (hk : W.heap[k]? = some (Obj.cells c 3 (0, 0))) : Bld B b acc (W.setCell ⟨k, 0, none⟩ v) := by
  refine h.imp ?_ ?_ <;>
    · rintro ⟨hB, v', hv, hown, hne⟩
      refine ⟨hB, v', set_other hv (ty_ne hv hk (by decide)), hown.kept (row := some k) ⟨rfl, rfl, rfl, by simp [World.setCell], fun i hi hne => Below.heap_setCell W ⟨k, 0, none⟩ v i (fun e => hne (by rw [show i = k from e]))⟩ (.inr ?_), hne⟩
      intro e
      obtain ⟨c', fz, hc'⟩ := Lib.ownsRowF_kind hown k e
      rw [hk] at hc'
      injection hc' with hc'
      injection hc' with _ hc' _
      exact absurd hc' (by decide)
end Go.Proofs.YteeigokkafcaaaaDoorRope
end
section
namespace Go.Proofs.YteeigokkafcaaaaDoorRope
open Go.RowKit Go.Proofs.YteeigokkafcaaaaDoorW.PrintWords Go.Proofs.YteeigokkafcaaaaDoorW.PrintMore Go.Proofs.YteeigokkafcaaaaDoor.Pr
set_option linter.unusedSimpArgs false
set_option linter.unusedVariables false
def RopeHas (W : World) (b : Nat) (cs : List (Int × Int)) : Prop := ∃ K t, RopeAt K W b t ∧ t.cells = cs
theorem RopeHas.below {W W' : World} {b : Nat} {cs : List (Int × Int)} (h : RopeHas W b cs) (hb : Below W.heap.size W W') : RopeHas W' b cs := by
  obtain ⟨K, t, h, hc⟩ := h
  exact ⟨K, t, h.below hb, hc⟩
theorem BarsAt.grown {W W' : World} {b : Nat} (h : BarsAt W) (hg : W.grownBy W' (some b)) (hb : b ≠ 0) : BarsAt W' := by
  have hl := h.lt
  obtain ⟨t, fr, h⟩ := h
  exact ⟨t, fr, (hg.block 0 hl (fun e => hb (by injection e with e; exact e.symm))).trans h⟩
def Row (S : Nat → Prop) (W : World) (A : Option Addr) (c : Nat) (cs : List (Int × Int)) : Prop := ∃ base, Kd.R k36 36 W base (fun k => ¬ S k) (.slice A cs.length c) (sCells cs)
section
variable {S : Nat → Prop} {W W' : World} {A : Option Addr} {c : Nat} {cs : List (Int × Int)}
theorem Row.below (h : Row S W A c cs) (hb : Below W.heap.size W W') : Row S W' A c cs := by
  obtain ⟨base, h⟩ := h
  exact ⟨base, Kd.R_below h hb⟩
theorem Row.grown {b : Nat} (h : Row S W A c cs) (hg : W.grownBy W' (some b)) (hb : S b) : Row S W' A c cs := by
  obtain ⟨base, h⟩ := h
  exact ⟨base, Kd.R_step h (fun k hk hl => hg.block k hl (fun e => hk (by injection e with e; rw [e]; exact hb)))⟩
theorem Row.rd (h : Row S W A c cs) : Kd.C k36 W A cs.length (sCells cs) := by
  obtain ⟨base, h⟩ := h
  have := (Kd.R_reads' h).2.2
  rwa [sCells_len] at this
theorem Row.cap (h : Row S W A c cs) : cs.length ≤ c := by
  obtain ⟨base, h⟩ := h
  exact (Kd.R_reads' h).2.1
theorem Row.of {n : Nat} (h : Kd.R k36 36 W n (fun k => n ≤ k) (.slice A cs.length c) (sCells cs)) (hS : ∀ k, S k → k < n ∨ W.heap.size ≤ k) : Row S W A c cs :=
  ⟨n, Kd.R_mono (Kd.R_bound h) (fun k hk hs => by rcases hS k hs with h' | h' <;> omega)⟩
end
section
variable {W : World} {b : Nat} {cs : List (Int × Int)}
theorem rope_total (h : RopeHas W b cs) : Calls Tryd.prog 19 #[.pointer (some ⟨b, 0, none⟩)] W fun e w' => e = .returned (.int .i64 (cs.length : Int)) ∧ Below W.heap.size W w' := by
  obtain ⟨K, t, h, rfl⟩ := h
  exact total_calls h
theorem rope_insert (h : RopeHas W b cs) (hw : BarsAt W) {at_ : Nat} {l : List Int} {hd : Int} (ha : at_ ≤ cs.length) (hl : Lets l) (hne : l ≠ []) (hh : 0 ≤ hd ∧ hd ≤ 1048576) (hsz : cs.length + l.length ≤ 1048576) : Calls Tryd.prog 33 #[.pointer (some ⟨b, 0, none⟩), .int .i64 (at_ : Int), .string (txt l), .int .i64 hd] W fun e w' => e = .returned (.int .i64 0) ∧ RopeHas w' b (insC cs at_ l hd) ∧ W.grownBy w' (some b) := by
  obtain ⟨K, t, h, rfl⟩ := h
  refine (insert_yes h hw ha hl hne hh hsz).mono ?_
  rintro e w' ⟨t', he, h', hc, hg⟩
  exact ⟨he, ⟨_, t', h', hc⟩, hg⟩
theorem rope_bump (h : RopeHas W b cs) {l : List (Nat × Nat)} {by_ : Int} (hby : by_ = 1 ∨ by_ = -1) (hN : Norm l cs.length) (hok : BumpOk cs l by_) (hsz : cs.length ≤ 1048576) {A : Option Addr} {c : Nat} (hA : Kd.C k133 W A l.length (sRng l)) (hc : l.length ≤ c) : Calls Tryd.prog 39 #[.pointer (some ⟨b, 0, none⟩), .slice A l.length c, .int .i64 by_] W fun e w' => e = .returned (.int .i64 0) ∧ RopeHas w' b (bumpC cs l by_) ∧ W.grownBy w' (some b) := by
  obtain ⟨K, t, h, rfl⟩ := h
  rcases hby with rfl | rfl
  · refine (bump_up h hN hok hsz hA hc).mono ?_
    rintro e w' ⟨t', he, h', hc, hg⟩
    exact ⟨he, ⟨_, t', h', hc⟩, hg⟩
  · refine (bump_down h hN hok hsz hA hc).mono ?_
    rintro e w' ⟨t', he, h', hc, hg⟩
    exact ⟨he, ⟨_, t', h', hc⟩, hg⟩
end
theorem ins_rn {cs : List (Int × Int)} {n : Nat} {l : List Int} {h : Int} (hc : ∀ c ∈ cs, Rn c.1) (hl : ∀ r ∈ l, Rn r) : ∀ c ∈ insC cs n l h, Rn c.1 := by
  intro c hm
  rw [insC, List.mem_append, List.mem_append] at hm
  rcases hm with (hm | hm) | hm
  · exact hc _ (List.mem_of_mem_take hm)
  · obtain ⟨r, hr, rfl⟩ := List.mem_map.1 hm
    exact hl r hr
  · exact hc _ (List.mem_of_mem_drop hm)
end Go.Proofs.YteeigokkafcaaaaDoorRope
end
section
namespace Go.Proofs.YteeigokkafcaaaaDoorRope
open Go.RowKit Go.Proofs.YteeigokkafcaaaaDoorW.PrintWords Go.Proofs.YteeigokkafcaaaaDoorW.PrintMore Go.Proofs.YteeigokkafcaaaaDoor.Pr
set_option linter.unusedSimpArgs false
set_option linter.unusedVariables false
theorem runs_c {ps : List (Int × Int)} {w : World} {A : Option Addr} {c : Nat} (hA : Kd.C k97 w A ps.length ps) (hc : ps.length ≤ c) (hm : ps.length ≤ 140737488355328) :
    Calls Tryd.prog 15 #[.slice A ps.length c] w fun e w' => ∃ A' c', e = .returned (.slice A' (runsL ps).length c') ∧ Kd.C k58 w' A' (runsL ps).length (sRuns (runsL ps)) ∧ (runsL ps).length ≤ c' ∧ Below w.heap.size w w' := by
  refine (runs_calls hA hc hm).mono ?_
  rintro e w' ⟨A', c', he, hR, hb⟩
  have h1 := (Kd.R_reads' hR).2
  rw [show (sRuns (runsL ps)).length = (runsL ps).length from by simp [sRuns]] at h1
  exact ⟨A', c', he, h1.2, h1.1, hb⟩
theorem row_c {ps : List (Int × Int)} {w : World} {A : Option Addr} {c : Nat} (hA : Kd.C k58 w A (runsL ps).length (sRuns (runsL ps))) :
    Calls Tryd.prog 16 #[.slice A (runsL ps).length c] w fun e w' => ∃ A' c', e = .returned (.slice A' (rcells (runsL ps)).length c') ∧ Row (fun b => w'.heap.size ≤ b) w' A' c' (rcells (runsL ps)) ∧ Below w.heap.size w w' := by
  have hg := runsL_good ps
  have h1 := runsL_cells ps
  have h2 := runsL_len ps
  refine (cells_calls (fun x hx => (hg.one x hx).2.1) (by omega) (by omega) hA).mono ?_
  rintro e w' ⟨A', c', he, hR, hb⟩
  exact ⟨A', c', he, Row.of hR (fun k hk => .inr hk), hb⟩
theorem Row.less {S S' : Nat → Prop} {W : World} {A : Option Addr} {c : Nat} {cs : List (Int × Int)} (h : Row S W A c cs) (hS : ∀ k, S' k → S k) : Row S' W A c cs := by
  obtain ⟨base, h⟩ := h
  exact ⟨base, Kd.R_mono h (fun k hk hs => hk (hS k hs))⟩
theorem from_c {ps : List (Int × Int)} {w : World} {A : Option Addr} {c : Nat} (hw : BarsAt w) (hA : Kd.C k58 w A (runsL ps).length (sRuns (runsL ps))) (hc : (runsL ps).length ≤ c) :
    Calls Tryd.prog 18 #[.slice A (runsL ps).length c] w fun e w' => ∃ b, e = .returned (.tuple #[.pointer (some ⟨b, 0, none⟩), .int .i64 0]) ∧ w.heap.size ≤ b ∧ b ≠ 0 ∧ RopeHas w' b (rcells (runsL ps)) ∧ Below w.heap.size w w' := by
  have h1 := runsL_cells ps
  have h2 := runsL_len ps
  refine (from_yes (runsL_good ps) (by omega) (by omega) hw hA hc).mono ?_
  rintro e w' ⟨b, t, he, hb, hR, hct, hB⟩
  exact ⟨b, he, hb, by have := hw.lt; omega, ⟨_, t, hR, hct⟩, hB⟩
theorem rcells_rn (ps : List (Int × Int)) : ∀ c ∈ rcells (runsL ps), Rn c.1 := by
  intro c hc
  unfold rcells at hc
  obtain ⟨x, hx, hc⟩ := List.mem_flatMap.1 hc
  obtain ⟨r, hr, rfl⟩ := List.mem_map.1 hc
  exact (((runsL_good ps).one x hx).2.1 r hr).rn
structure Stand (w W : World) (b : Nat) (A : Option Addr) (c : Nat) (cs cs' : List (Int × Int)) : Prop where
  bel : Below w.heap.size w W
  bars : BarsAt W
  row : Row (fun k => k = b) W A c cs
  rope : RopeHas W b cs'
  lb : w.heap.size ≤ b
  nz : b ≠ 0
section
variable {w W W' : World} {b : Nat} {A : Option Addr} {c : Nat} {cs cs' cs'' : List (Int × Int)}
theorem below_grown {n : Nat} (h : Below n w W) (hg : W.grownBy W' (some b)) (hb : n ≤ b) (hn : n ≤ W.heap.size) : Below n w W' :=
  ⟨hg.os.trans h.os, hg.tape.trans h.tape, hg.output.trans h.output, Nat.le_trans h.size hg.size, fun k hk => (hg.block k (Nat.lt_of_lt_of_le hk hn) (fun e => by injection e with e; omega)).trans (h.block k hk)⟩
theorem Stand.step (h : Stand w W b A c cs cs') (hb : Below W.heap.size W W') : Stand w W' b A c cs cs' :=
  ⟨h.bel.trans (hb.mono h.bel.size), h.bars.below hb, h.row.below hb, h.rope.below hb, h.lb, h.nz⟩
theorem Stand.put (h : Stand w W b A c cs cs') (hg : W.grownBy W' (some b)) (hr : RopeHas W' b cs'') : Stand w W' b A c cs cs'' :=
  ⟨below_grown h.bel hg h.lb h.bel.size, h.bars.grown hg h.nz, h.row.grown hg rfl, hr, h.lb, h.nz⟩
end
end Go.Proofs.YteeigokkafcaaaaDoorRope
end
section
namespace Go.Proofs.YteeigokkafcaaaaDoorRope
open Go.RowKit Go.Proofs.YteeigokkafcaaaaDoorW.PrintWords Go.Proofs.YteeigokkafcaaaaDoorW.PrintMore Go.Proofs.YteeigokkafcaaaaDoor.Pr
set_option linter.unusedSimpArgs false
set_option linter.unusedVariables false
theorem sCells_append (a b : List (Int × Int)) : sCells (a ++ b) = sCells a ++ sCells b := by simp [sCells]
theorem sCells_take (a : List (Int × Int)) (n : Nat) : sCells (a.take n) = (sCells a).take n := by simp [sCells]
theorem sCells_drop (a : List (Int × Int)) (n : Nat) : sCells (a.drop n) = (sCells a).drop n := by simp [sCells]
set_option maxRecDepth 100000 in
set_option maxHeartbeats 16000000 in
theorem put_calls {cs : List (Int × Int)} {at_ : Nat} {rs : List Int} {hd : Int} (hat : at_ ≤ cs.length) (hb : cs.length + rs.length ≤ 1048576) (hls : Lets rs) {w : World} {A : Option Addr} {c : Nat} (hA : Kd.C k36 w A cs.length (sCells cs)) (hc : cs.length ≤ c) :
    Calls Tryd.prog 52 #[.slice A cs.length c, .int .i64 (at_ : Int), .string (txt rs), .int .i64 hd] w fun e w' => ∃ A' c', e = .returned (.slice A' (insC cs at_ rs hd).length c') ∧ Kd.R k36 36 w' w.heap.size (fun b => w.heap.size ≤ b) (.slice A' (insC cs at_ rs hd).length c') (sCells (insC cs at_ rs hd)) ∧ Below w.heap.size w w' := by
  have hA' : Kd.C k36 w A (sCells cs).length (sCells cs) := by rw [sCells_len]; exact hA
  have ht := Kd.C_take hA' (m := at_) (by rw [sCells_len]; exact hat)
  have hdr := Kd.C_drop hA' (m := at_) (c := c) (by rw [sCells_len]; exact hat) (by rw [sCells_len]; exact hc)
  rw [← sCells_take, sCells_len, List.length_take, Nat.min_eq_left hat] at ht
  rw [← sCells_drop, sCells_len, List.length_drop, show k36.sz = 2 from rfl] at hdr
  have b1 : (at_ : Int) ≤ (c : Int) := by omega
  have b2 : (at_ : Int) ≤ (cs.length : Int) := by omega
  have HB := Lib.hid hb
  have HAT := Lib.hid hat
  have HC := Lib.hid hc
  have hcc : (cs.length : Int) ≤ (c : Int) := by omega
  obtain ⟨N, hN⟩ : ∃ N, N = cs.length := ⟨_, rfl⟩
  rw [← hN] at hdr b2 hcc ⊢
  have HNN := Lib.hid hN
  clear hA hA' hb hat hc hN
  go_enter Tryd.func52, Tryd.ntmps52
  have HL0 : Hid ((([] : List S36).length + at_) * 16 ≤ 140737488355328) := Lib.hid (by have := HB.out; have := HAT.out; simp only [List.length_nil]; omega)
  go_wp2_with ((with_reducible refine gate_builtin (b := .append) (xs := #[.tmp 12, .tmp 15]) rfl ?_); at_builtin; refine Kd.R_append_rows k36 (w0 := w) w.heap.size rfl (.tmp 12) (.tmp 15) 25 36 (.agg #[.int .i32 0, .int .i64 0]) 16 rfl Tryd.underlying25 info36 rfl (by decide) (by decide) _ ([] : List S36) (sCells (cs.take at_)) _ _ _ (fun b => w.heap.size ≤ b) (fun _ => False) rfl rfl (Kd.R_nil _ _ _ _ _) ht (fun _ _ h => h) (fun _ h => h.elim) (fun _ h => h) (Below.refl _ _) (Nat.le_refl _) HL0.out ?_; intro v1 w1 hR1 hB1 hg1 hat1)
  rw [List.nil_append] at hR1
  clear hg1 hat1
  obtain ⟨wo, hwo⟩ : ∃ wo : World, wo = w1 := ⟨_, rfl⟩
  subst hwo
  have hk0 := iter_start wo rs
  have hB0 : Below w.heap.size w (wo.iter (txt rs) 0) := hB1.alloc hB1.size _
  have hR0 : Kd.R k36 36 (wo.iter (txt rs) 0) w.heap.size (fun b => w.heap.size ≤ b ∧ b ≠ wo.heap.size) _ (sCells (cs.take at_)) := Kd.R_mono (Kd.R_below (Kd.R_bound hR1) ((Below.refl _ wo).alloc (Nat.le_refl _) _)) (fun b hb => ⟨hb.1, by have := hb.2.2.1; omega⟩)
  obtain ⟨pre, hpre⟩ : ∃ pre, pre = cs.take at_ := ⟨_, rfl⟩
  rw [← hpre] at hR0
  have hpl0 : pre.length = at_ := by rw [hpre, List.length_take]; have := HAT.out; omega
  have HPRE := Lib.hid hpre
  have HPL := Lib.hid hpl0
  have hwz := hB1.size
  clear hpre hR1 hB1 hpl0 ht
  go_loopw [9] (fun v9 wx => ∃ j : Nat, j ≤ rs.length ∧ IterAt wx wo.heap.size rs j ∧ Kd.R k36 36 wx w.heap.size (fun b => w.heap.size ≤ b ∧ b ≠ wo.heap.size) v9 (sCells (pieceTo pre rs hd j)) ∧ Below w.heap.size w wx) (fun _ wx => leftOf wx wo.heap.size rs)
  case atStart => exact ⟨0, Nat.zero_le _, hk0, by rw [pieceTo_zero]; exact hR0, hB0⟩
  case round =>
    obtain ⟨j, hjl, hk, hRj, hBj⟩ := hrel
    clear hk0 hB0 hR0
    by_cases hlj : j < rs.length
    · obtain ⟨W1, p, r, hnext, ⟨hx, hr⟩, hp, hi1, ho1, hs1, hbl1⟩ := next_txt (P := Tryd.prog) hls.rns hk hlj
      have hR1 : Kd.R k36 36 W1 w.heap.size (fun b => w.heap.size ≤ b ∧ b ≠ wo.heap.size) _ (sCells (pieceTo pre rs hd j)) := Kd.R_step hRj (fun b hb _ => ho1 b hb.2)
      have hB1 := hbl1 hBj hwz
      have hz1 : wo.heap.size < W1.heap.size := IterAt.below.new_lt' hi1
      have hps := pieceTo_succ (pre := pre) (h := hd) hlj hr
      have hpl := pieceTo_len pre rs hd j
      have HK := Lib.hid hk
      have HI := Lib.hid hi1
      have HPS := Lib.hid hps
      have HL : Hid (((sCells (pieceTo pre rs hd j)).length + 1) * 16 ≤ 140737488355328) := Lib.hid (by rw [sCells_len]; have := HB.out; have := HPL.out; have := HAT.out; omega)
      clear hk hp ho1 hRj hBj hi1 hr hs1 hbl1 hps hpl
      go_wp2_with ((with_reducible refine gate_builtin (b := .append) (xs := #[.tmp 22, .tmp 26]) rfl ?_); at_builtin; refine Kd.R_append k36 (w0 := w) w.heap.size rfl (.tmp 22) (.tmp 26) 25 36 (.agg #[.int .i32 0, .int .i64 0]) 16 rfl Tryd.underlying25 info36 rfl (by decide) (by decide) _ (sCells (pieceTo pre rs hd j)) ⟨r, hd⟩ [.int .i32 r, .int .i64 hd] (fun b => w.heap.size ≤ b ∧ b ≠ wo.heap.size) (fun _ => False) rfl rfl ?aP (fun _ h => h.elim) ?aF hR1 hB1 hB1.size HL.out ?_; (case aP => exact k36_mkM _ _ _ ⟨_, _⟩); (case aF => exact fun b hb => ⟨Nat.le_trans hB1.size hb, by omega⟩); intro v1 w1 hR2 hB2 hg2 hat2)
      have hI2 : IterAt w1 wo.heap.size rs (j + 1) := HI.out.grown hg2 (fun e => (hR1.1 _ e.symm).2 rfl)
      have hR3 : Kd.R k36 36 w1 w.heap.size (fun b => w.heap.size ≤ b ∧ b ≠ wo.heap.size) v1 (sCells (pieceTo pre rs hd (j + 1))) := by rw [HPS.out, sCells_snoc]; exact hR2
      have hm := left_less HK.out hI2 hlj
      clear hR1 hR2 hB1 hz1
      go_wp2
      go_roundw
      case rel => exact ⟨j + 1, hlj, hI2, hR3, hB2⟩
      case measure => exact hm
    · have hnext := fun ty => next_txt_end (P := Tryd.prog) hk (by omega) ty
      have hj2 : j = rs.length := by omega
      subst hj2
      have hpa : pieceTo pre rs hd rs.length = pre ++ rs.map (fun c => (c, hd)) := by simp [pieceTo]
      rw [hpa] at hRj
      have HL2 : Hid (((sCells (pre ++ rs.map (fun c => (c, hd)))).length + (N - at_)) * 16 ≤ 140737488355328) := Lib.hid (by rw [sCells_len, List.length_append, List.length_map]; have := HB.out; have := HPL.out; have := HAT.out; have := HNN.out; omega)
      clear hlj hjl hpa
      have hzz : wo.heap.size < wr.heap.size := IterAt.below.new_lt' hk
      by_cases hca : c = at_
      · rw [if_pos hca] at hdr
        have hz0 : N - at_ = 0 := by have := HC.out; have := HNN.out; omega
        rw [hz0] at hdr HL2
        obtain rfl : at_ = c := hca.symm
        go_wp2_with ((with_reducible refine gate_builtin (b := .append) (xs := #[.tmp 28, .tmp 31]) rfl ?_); at_builtin; refine Kd.R_append_rows k36 (w0 := w) w.heap.size rfl (.tmp 28) (.tmp 31) 25 36 (.agg #[.int .i32 0, .int .i64 0]) 16 rfl Tryd.underlying25 info36 rfl (by decide) (by decide) _ (sCells (pre ++ rs.map (fun c => (c, hd)))) (sCells (cs.drop at_)) _ _ _ (fun b => w.heap.size ≤ b ∧ b ≠ wo.heap.size) (fun _ => False) rfl rfl hRj (Kd.C_below hdr hBj) (fun _ _ h => h) (fun _ h => h.elim) ?aF hBj hBj.size HL2.out ?_; (case aF => exact fun b hb => ⟨Nat.le_trans hBj.size hb, by omega⟩); intro v1 w1 hR2 hB2 hg2 hat2)
        clear hg2 hat2
        have he : sCells (pre ++ rs.map (fun c => (c, hd))) ++ sCells (cs.drop at_) = sCells (insC cs at_ rs hd) := by rw [← sCells_append, HPRE.out]; rfl
        rw [he] at hR2
        obtain ⟨A', c', hv⟩ := Kd.R_slice hR2
        rw [sCells_len] at hv
        subst hv
        clear he
        go_wp2
        go_ret
        exact ⟨A', c', rfl, Kd.R_mono hR2 (fun b hb => hb.1), hB2⟩
      · rw [if_neg hca] at hdr
        have hca1 : (c = at_) = False := eq_false hca
        have hca2 : (c == at_) = false := beq_eq_false_iff_ne.mpr hca
        go_wp2_with ((with_reducible refine gate_builtin (b := .append) (xs := #[.tmp 28, .tmp 31]) rfl ?_); at_builtin; refine Kd.R_append_rows k36 (w0 := w) w.heap.size rfl (.tmp 28) (.tmp 31) 25 36 (.agg #[.int .i32 0, .int .i64 0]) 16 rfl Tryd.underlying25 info36 rfl (by decide) (by decide) _ (sCells (pre ++ rs.map (fun c => (c, hd)))) (sCells (cs.drop at_)) _ _ _ (fun b => w.heap.size ≤ b ∧ b ≠ wo.heap.size) (fun _ => False) rfl rfl hRj (Kd.C_below hdr hBj) (fun _ _ h => h) (fun _ h => h.elim) ?aF hBj hBj.size HL2.out ?_; (case aF => exact fun b hb => ⟨Nat.le_trans hBj.size hb, by omega⟩); intro v1 w1 hR2 hB2 hg2 hat2)
        clear hg2 hat2
        have he : sCells (pre ++ rs.map (fun c => (c, hd))) ++ sCells (cs.drop at_) = sCells (insC cs at_ rs hd) := by rw [← sCells_append, HPRE.out]; rfl
        rw [he] at hR2
        obtain ⟨A', c', hv⟩ := Kd.R_slice hR2
        rw [sCells_len] at hv
        subst hv
        clear he
        go_wp2
        go_ret
        exact ⟨A', c', rfl, Kd.R_mono hR2 (fun b hb => hb.1), hB2⟩
end Go.Proofs.YteeigokkafcaaaaDoorRope
end
section
namespace Go.Proofs.YteeigokkafcaaaaDoor.Pr
open Go.RowKit Go.Proofs.YteeigokkafcaaaaDoorW.PrintWords Go.Proofs.YteeigokkafcaaaaDoorW.PrintLast Go.Proofs.YteeigokkafcaaaaDoorW.PrintMore
attribute [local go_sem] max2_int min2_int max_two min_two max_three min_three max_four min_four
set_option linter.unusedVariables false
set_option linter.unusedSimpArgs false
theorem eqA58 (d : Nat) (w : World) (x0 y0 : ByteArray) (x1 y1 : Int) :
  (Op.equalIn (d + 2) 58 (.agg #[.string x0, .int .i64 x1]) (.agg #[.string y0, .int .i64 y1])).run Tryd.prog w = .ok (x0.toList == y0.toList && (x1 == y1)) w := by
 refine eqA_of Tryd.underlying58 (by kernel_rfl) ?_
 refine eqf_cons (by rfl) (by go_simp; rfl) (by go_simp; rfl) (by go_simp) ?_
 exact eqf_last (by rfl) (by go_simp; rfl) (by go_simp; rfl) (by go_simp)
end Go.Proofs.YteeigokkafcaaaaDoor.Pr
end
