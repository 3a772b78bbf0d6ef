/- Proved: just MaxPlace cells may be; one more is refused and changes nothing. -/
import Derived.Deep.LoopGhost
import Derived.Shelf.Strings.Builder1
import Derived.Shelf.Strings.BuilderF
import Derived.Shelf.Strings.BuilderK
import Derived.Shelf.Strings.BuilderRune
import Derived.Test.YteeigokkafcaaaaDoorProg
import Derived.Laws.BytesString
import Derived.Test.YteeigokkafcaaaaDoorClaimGrows1
section
namespace Go.Proofs.YteeigokkafcaaaaDoorRope
open Go.RowKit Go.Proofs.YteeigokkafcaaaaDoorW.PrintWords Go.Proofs.YteeigokkafcaaaaDoorW.PrintMore Go.Proofs.YteeigokkafcaaaaDoor.Pr
set_option linter.unusedSimpArgs false
set_option linter.unusedVariables false
attribute [local go_sem ↓] Go.wp_at_zero Go.wp_at_succ
def evGo (run : List Int) (h : Int) : List S113 → List S113
  | [] => cutS run h
  | x :: t => if x.f1 = h then evGo (run ++ x.f0) h t else cutS run h ++ evGo x.f0 x.f1 t
def ev : List S113 → List S113
  | [] => []
  | x :: t => evGo x.f0 x.f1 t
theorem evGo_start {ps : List S113} {i : Nat} (hi : i < ps.length) : evGo [] ps[i].f1 (ps.drop i) = ev (ps.drop i) := by
  rw [List.drop_eq_getElem_cons hi, evGo, if_pos rfl, List.nil_append, ev]
theorem evGo_more {ps : List S113} {k : Nat} (hk : k < ps.length) {run : List Int} {h : Int} (e : ps[k].f1 = h) : evGo run h (ps.drop k) = evGo (run ++ ps[k].f0) h (ps.drop (k + 1)) := by
  conv => lhs; rw [List.drop_eq_getElem_cons hk]
  rw [evGo, if_pos e]
theorem evGo_stop {ps : List S113} {k : Nat} {run : List Int} {h : Int} (e : ∀ hk : k < ps.length, ps[k].f1 ≠ h) : evGo run h (ps.drop k) = cutS run h ++ ev (ps.drop k) := by
  by_cases hk : k < ps.length
  · conv => lhs; rw [List.drop_eq_getElem_cons hk]
    conv => rhs; rw [List.drop_eq_getElem_cons hk]
    rw [evGo, if_neg (e hk), ev]
  · rw [List.drop_eq_nil_of_le (by omega), evGo, ev, List.append_nil]
theorem pc_cell {W : World} {A : Option Addr} {ps : List S113} (h : Kd.C k113 W A ps.length ps) {k : Nat} (hk : k < ps.length) : ∃ ad A0 c0, A = some ad ∧ W.cell? (ad.add (k * 2)) = some (.slice A0 ps[k].f0.length c0) ∧ W.cell? ⟨(ad.add (k * 2)).block, (ad.add (k * 2)).off + 1, none⟩ = some (.int .i64 ps[k].f1) ∧ ps[k].f0.length ≤ c0 ∧ (Kd.int .i32).C W A0 ps[k].f0.length ps[k].f0 := by
  obtain ⟨ad, A0, c0, e, h1, h2, h3, h4⟩ := at_T113 h (k : Int) (by omega) (by omega)
  have hx : rd_T113 ps (k : Int) = ps[k] := by simp [rd_T113, hk]
  rw [hx] at h1 h2 h3 h4
  exact ⟨ad, A0, c0, e, by simpa using h1, by simpa using h2, h3, h4⟩
theorem scells_take {ps : List S113} {k : Nat} (hk : k < ps.length) : (scells (ps.take (k + 1))).length = (scells (ps.take k)).length + ps[k].f0.length := by
  rw [List.take_succ_eq_append_getElem hk, scells_append, List.length_append]
  simp [scells]
theorem scells_le {ps : List S113} (k : Nat) : (scells (ps.take k)).length ≤ (scells ps).length := by
  have := congrArg (fun x => (scells x).length) (List.take_append_drop k ps)
  simp only [scells_append, List.length_append] at this
  omega
def EvO (w : World) (ps : List S113) (v3 v4 : Value) (wr : World) : Prop :=
  ∃ (i : Nat) (o : List S113), v4 = .int .i64 (i : Int) ∧ i ≤ ps.length ∧ o ++ ev (ps.drop i) = ev ps ∧ o.length ≤ (scells (ps.take i)).length ∧ Kd.N k113 113 wr w.heap.size (fun b => w.heap.size ≤ b) v3 o ∧ Below w.heap.size w wr
def EvI (w wo : World) (ps o : List S113) (h : Int) (i : Nat) (v3 v5 v6 : Value) (wx : World) : Prop :=
  ∃ (k : Nat) (run : List Int), v6 = .int .i64 (k : Int) ∧ i ≤ k ∧ k ≤ ps.length ∧ o ++ evGo run h (ps.drop k) = ev ps ∧ (scells (ps.take i)).length + run.length = (scells (ps.take k)).length ∧ Kd.R (Kd.int .i32) 21 wx w.heap.size (fun b => wo.heap.size ≤ b) v5 run ∧ Kd.N k113 113 wx w.heap.size (fun b => w.heap.size ≤ b ∧ b < wo.heap.size) v3 o ∧ Below w.heap.size w wx ∧ wo.heap.size ≤ wx.heap.size
theorem info21' : (Tryd.prog.info? 21).map (fun i => (i.zero, i.size, i.bytes)) = some (some (.int .i32 0), 1, 4) := by kernel_rfl
set_option maxRecDepth 100000 in
set_option maxHeartbeats 16000000 in
theorem evened_calls {ps : List S113} (hlen : (scells ps).length ≤ 1073741824) (hpl : ps.length ≤ 1073741824) {w : World} {A : Option Addr} {c : Nat} (hA : Kd.C k113 w A ps.length ps) (hc : ps.length ≤ c) :
    Calls Tryd.prog 105 #[.slice A ps.length c] w fun e w' => ∃ v, e = .returned v ∧ Kd.N k113 113 w' w.heap.size (fun b => w.heap.size ≤ b) v (ev ps) ∧ Below w.heap.size w w' := by
  have HLEN := Lib.hid hlen
  clear hlen
  go_enter Tryd.func105, Tryd.ntmps105
  go_wp2
  go_loopg [3, 4] ps.length (fun gk v3 v4 wr => EvO w ps v3 v4 wr ∧ ps.length - (intOf v4).toNat ≤ gk)
  case atStart => exact ⟨⟨0, [], rfl, Nat.zero_le _, rfl, Nat.zero_le _, Kd.N_nil _ _ _ _ _, Below.refl _ _⟩, by simp [intOf]⟩
  case round =>
    obtain ⟨⟨i, o, rfl, hi, hg, hol, hN, hB⟩, hgk⟩ := hrel
    obtain ⟨gkO, hgO⟩ : ∃ gkO, gkO = gk := ⟨_, rfl⟩
    subst hgO
    obtain ⟨wo, hwo⟩ : ∃ wo : World, wo = wr := ⟨_, rfl⟩
    subst hwo
    have hgk2 : ps.length - i ≤ gkO := by simpa [intOf] using hgk
    clear hgk
    by_cases hlt : i < ps.length
    · obtain ⟨ad, A0, c0, hAd, x0, x1, x2, x3⟩ := pc_cell hA hlt
      subst hAd
      have hs := evGo_start hlt
      rw [← hs] at hg
      have hsl := scells_take hlt
      obtain ⟨h, hh⟩ : ∃ h, h = ps[i].f1 := ⟨_, rfl⟩
      rw [← hh] at hg x1
      have ib : (i : Int) ≤ 1073741824 := by omega
      have hI : EvI w wo ps o h i _ (.slice none 0 0) (.int .i64 (i : Int)) wo := ⟨i, [], rfl, Nat.le_refl _, Nat.le_of_lt hlt, hg, rfl, Kd.R_nil _ _ _ _ _, Kd.N_bound hN, hB, Nat.le_refl _⟩
      have HOL := Lib.hid hol
      have HH := Lib.hid hh
      clear hs hg x0 x2 x3 hN hol hh hsl
      go_wp2
      go_loopg [5, 6] ps.length (fun gk2 v5 v6 wx => EvI w wo ps o h i _ v5 v6 wx ∧ ps.length - (intOf v6).toNat ≤ gk2)
      case atStart => exact ⟨hI, by simp [intOf]⟩
      case round =>
        clear hI
        obtain ⟨⟨k, run, rfl, hik, hk, hg, hrl, hR, hN, hBx, hws⟩, hgk3⟩ := hrel
        have hgk4 : ps.length - k ≤ gk := by simpa [intOf] using hgk3
        clear hgk3
        obtain ⟨A5, c5, hv5⟩ := Kd.R_slice hR
        subst hv5
        have hrun : run.length ≤ 1073741824 := by have h1 := scells_le (ps := ps) k; have := HLEN.out; omega
        have hown : ∀ b, wo.heap.size ≤ b → some b ≠ (u3 : Value).ownBlock := fun b hb e => by have := (hN.1 b e.symm).2; omega
        have y1 := pw_cell_below hBx x1
        have kb : (k : Int) ≤ 1073741824 := by omega
        by_cases hkl : k < ps.length
        · obtain ⟨ad', A1, c1, hAd', z0, z1, z2, z3⟩ := pc_cell hA hkl
          injection hAd' with hAd'
          subst hAd'
          have u0 := pw_cell_below hBx z0
          have u1 := pw_cell_below hBx z1
          have u3 := Kd.C_below z3 hBx
          have hst := scells_take hkl
          have hsle := scells_le (ps := ps) (k + 1)
          have t1 : decide (k < ps.length) = true := decide_eq_true hkl
          by_cases he : ps[k].f1 = h
          · have t2 : (ps[k].f1 == h) = true := beq_iff_eq.mpr he
            rw [evGo_more hkl he] at hg
            obtain ⟨rs, hrs⟩ : ∃ rs, rs = ps[k].f0 := ⟨_, rfl⟩
            rw [← hrs] at hg u0 u3 hst z2
            obtain ⟨q, hq⟩ : ∃ q, q = ps[k].f1 := ⟨_, rfl⟩
            rw [← hq] at u1 t2
            have HG := Lib.hid hg
            have HRL : Hid ((scells (ps.take i)).length + (run ++ rs).length = (scells (ps.take (k + 1))).length) := Lib.hid (by rw [List.length_append, hst]; omega)
            have HL : Hid ((run.length + rs.length) * 4 ≤ 140737488355328) := Lib.hid (by have := HLEN.out; omega)
            clear hg z0 z1 z3 hst hsle hrl hrs he hq
            go_wp2
            go_quiet (fail)
            have hRq := Kd.R_drewN hR nq
            have hNq := Kd.N_drewN hN nq
            have hBq := pw_below_drewN hBx nq
            have uq := Kd.C_drewN u3 nq
            go_wp2_with ((with_reducible refine gate_builtin (b := .append) (xs := #[.tmp 29, .tmp 34]) rfl ?_); at_builtin; refine Kd.R_append_rows (Kd.int .i32) (w0 := w) w.heap.size rfl (.tmp 29) (.tmp 34) 103 21 (.int .i32 0) 4 rfl Tryd.underlying103 info21' rfl (by decide) (by decide) _ run rs A1 rs.length c1 (fun b => wo.heap.size ≤ b) (fun _ => False) rfl rfl hRq uq (fun _ _ h => h) (fun _ h => h.elim) ?aF hBq hBq.size HL.out ?_; (case aF => exact fun b hb => Nat.le_trans hws hb); intro v5 w5 hR5 hB5 hg5 hat5)
            have hws5 : wo.heap.size ≤ w5.heap.size := Nat.le_trans hws hg5.size
            have hN5 := Kd.N_grown hNq hg5 (fun b hb e => by have := hRq.1 b e.symm; have := hb.2; omega)
            obtain ⟨g, rfl⟩ : ∃ g, gk = g + 1 := ⟨gk - 1, by omega⟩
            clear hRq hNq hBq uq u0 u1 u3 hR hN hBx y1 hg5 hat5
            go_wp2
            go_roundg g
            case measure => omega
            case rel => exact ⟨⟨k + 1, run ++ rs, by go_num, by omega, hkl, HG.out, HRL.out, hR5, hN5, hB5, hws5⟩, by simp [intOf]; omega⟩
          · have t2 : (ps[k].f1 == h) = false := beq_eq_false_iff_ne.mpr he
            rw [evGo_stop (fun _ => he)] at hg
            have hcl := (cutS_law run h hrun).2.2
            have hol2 : (o ++ cutS run h).length ≤ (scells (ps.take k)).length := by rw [List.length_append]; have := HOL.out; omega
            have hki : i < k := by
              rcases Nat.lt_or_ge i k with h1 | h1
              · exact h1
              · exfalso
                exact he (by rw [HH.out]; simp only [show k = i by omega])
            have HL : Hid ((o.length + (cutS run h).length) * 32 ≤ 140737488355328) := Lib.hid (by rw [← List.length_append]; have h1 := scells_le (ps := ps) k; have := HLEN.out; omega)
            have HG : Hid ((o ++ cutS run h) ++ ev (ps.drop k) = ev ps) := Lib.hid (by rw [List.append_assoc]; exact hg)
            have HOL2 := Lib.hid hol2
            obtain ⟨g, rfl⟩ : ∃ g, gkO = g + 1 := ⟨gkO - 1, by omega⟩
            clear hg hcl hol2 hrl HOL HH
            clear z0 z3 u0 u3
            go_wp2
            go_quiet (fail)
            have hRq := Kd.R_drewN hR nq
            have hNq := Kd.N_drewN hN nq
            have hBq := pw_below_drewN hBx nq
            have y2 := y1
            clear hR hN hBx
            go_wp2_with (first
              | (go_at_call 55; refine (cutUp_sl (Kd.R_V hRq) hrun).mono ?_; rintro e w7 ⟨A7, c7, rfl, hF7, hc7, hb7⟩)
              | ((with_reducible refine gate_builtin (b := .append) (xs := #[.tmp 38, .tmp 45]) rfl ?_); at_builtin; refine Kd.N_append_rows k113 (w0 := w) w.heap.size rfl (.tmp 38) (.tmp 45) 101 113 (.agg #[.slice none 0 0, .int .i64 0]) 32 rfl Tryd.underlying101 info113 rfl (by decide) (by decide) _ o _ A7 _ c7 (fun b => w.heap.size ≤ b) _ rfl rfl (Kd.N_mono (Kd.N_below hNq hb7) (fun b hb => hb.1)) hF7 ?aK ?aF (hBq.trans (hb7.mono hBq.size)) (hBq.trans (hb7.mono hBq.size)).size HL.out ?_; (case aK => exact fun b hb => ⟨by have := hB.size; have : wo.heap.size ≤ (wr.drewN nq).heap.size := hws; omega, hown b (by have : wo.heap.size ≤ (wr.drewN nq).heap.size := hws; omega)⟩); (case aF => exact fun b hb => Nat.le_trans (hBq.trans (hb7.mono hBq.size)).size hb); intro v8 w8 hN8 hB8 hg8 hat8))
            clear hRq hNq hBq hF7 hg8 hat8
            go_wp2
            go_roundg g
            case measure => omega
            case rel => exact ⟨⟨k, o ++ cutS run h, rfl, hk, HG.out, HOL2.out, hN8, hB8⟩, by simp [intOf]; omega⟩
        · have t1 : decide (k < ps.length) = false := decide_eq_false hkl
          rw [evGo_stop (fun hk' => absurd hk' hkl)] at hg
          have hcl := (cutS_law run h hrun).2.2
          have hol2 : (o ++ cutS run h).length ≤ (scells (ps.take k)).length := by rw [List.length_append]; have := HOL.out; omega
          have hki : i < k := by
            rcases Nat.lt_or_ge i k with h1 | h1
            · exact h1
            · exfalso
              omega
          have HL : Hid ((o.length + (cutS run h).length) * 32 ≤ 140737488355328) := Lib.hid (by rw [← List.length_append]; have h1 := scells_le (ps := ps) k; have := HLEN.out; omega)
          have HG : Hid ((o ++ cutS run h) ++ ev (ps.drop k) = ev ps) := Lib.hid (by rw [List.append_assoc]; exact hg)
          have HOL2 := Lib.hid hol2
          obtain ⟨g, rfl⟩ : ∃ g, gkO = g + 1 := ⟨gkO - 1, by omega⟩
          clear hg hcl hol2 hrl HOL HH
          go_wp2
          go_quiet (fail)
          have hRq := Kd.R_drewN hR nq
          have hNq := Kd.N_drewN hN nq
          have hBq := pw_below_drewN hBx nq
          have y2 := y1
          clear hR hN hBx
          go_wp2_with (first
            | (go_at_call 55; refine (cutUp_sl (Kd.R_V hRq) hrun).mono ?_; rintro e w7 ⟨A7, c7, rfl, hF7, hc7, hb7⟩)
            | ((with_reducible refine gate_builtin (b := .append) (xs := #[.tmp 38, .tmp 45]) rfl ?_); at_builtin; refine Kd.N_append_rows k113 (w0 := w) w.heap.size rfl (.tmp 38) (.tmp 45) 101 113 (.agg #[.slice none 0 0, .int .i64 0]) 32 rfl Tryd.underlying101 info113 rfl (by decide) (by decide) _ o _ A7 _ c7 (fun b => w.heap.size ≤ b) _ rfl rfl (Kd.N_mono (Kd.N_below hNq hb7) (fun b hb => hb.1)) hF7 ?aK ?aF (hBq.trans (hb7.mono hBq.size)) (hBq.trans (hb7.mono hBq.size)).size HL.out ?_; (case aK => exact fun b hb => ⟨by have := hB.size; have : wo.heap.size ≤ (wr.drewN nq).heap.size := hws; omega, hown b (by have : wo.heap.size ≤ (wr.drewN nq).heap.size := hws; omega)⟩); (case aF => exact fun b hb => Nat.le_trans (hBq.trans (hb7.mono hBq.size)).size hb); intro v8 w8 hN8 hB8 hg8 hat8))
          clear hRq hNq hBq hF7 hg8 hat8
          go_wp2
          go_roundg g
          case measure => omega
          case rel => exact ⟨⟨k, o ++ cutS run h, rfl, hk, HG.out, HOL2.out, hN8, hB8⟩, by simp [intOf]; omega⟩
    · have hin : i = ps.length := by omega
      subst hin
      rw [List.drop_length, ev, List.append_nil] at hg
      subst hg
      clear hlt hi hgk2 hol
      go_wp2
      go_ret
      exact ⟨_, rfl, hN, hB⟩
end Go.Proofs.YteeigokkafcaaaaDoorRope
end
section
namespace Go.Proofs.YteeigokkafcaaaaDoorRope
open Go.RowKit Go.Proofs.YteeigokkafcaaaaDoorW.PrintWords Go.Proofs.YteeigokkafcaaaaDoorW.PrintMore Go.Proofs.YteeigokkafcaaaaDoor.Pr
set_option linter.unusedSimpArgs false
set_option linter.unusedVariables false
theorem scells_cons (x : S113) (t : List S113) : scells (x :: t) = x.f0.map (fun c => (c, x.f1)) ++ scells t := by simp [scells]
theorem evGo_cells : ∀ (t : List S113) (run : List Int) (h : Int), run.length + (scells t).length ≤ 1073741824 → scells (evGo run h t) = run.map (fun c => (c, h)) ++ scells t
  | [], run, h, hb => by
    rw [evGo, (cutS_law run h (by omega)).1]
    simp [scells]
  | x :: t, run, h, hb => by
    rw [scells_cons, List.length_append, List.length_map] at hb
    rw [evGo]
    by_cases c : x.f1 = h
    · rw [if_pos c, evGo_cells t (run ++ x.f0) h (by rw [List.length_append]; omega), scells_cons, c, List.map_append, List.append_assoc]
    · rw [if_neg c, scells_append, (cutS_law run h (by omega)).1, evGo_cells t x.f0 x.f1 (by omega), scells_cons]
theorem ev_cells (ps : List S113) (hb : (scells ps).length ≤ 1073741824) : scells (ev ps) = scells ps := by
  cases ps with
  | nil => rfl
  | cons x t =>
    rw [scells_cons, List.length_append, List.length_map] at hb
    rw [ev, evGo_cells t x.f0 x.f1 hb, scells_cons]
theorem evGo_ok : ∀ (t : List S113) (run : List Int) (h : Int), run.length + (scells t).length ≤ 1073741824 → 0 ≤ h ∧ h ≤ 1048577 → (∀ x ∈ t, OkPc x) → ∀ x ∈ evGo run h t, OkPc x
  | [], run, h, hb, hh, ht, x, hx => by
    obtain ⟨h1, _, h2⟩ := (cutS_law run h (by omega)).2.1 x hx
    exact ⟨h1, by omega, by omega⟩
  | y :: t, run, h, hb, hh, ht, x, hx => by
    rw [scells_cons, List.length_append, List.length_map] at hb
    rw [evGo] at hx
    have hy := ht y List.mem_cons_self
    by_cases c : y.f1 = h
    · rw [if_pos c] at hx
      exact evGo_ok t _ h (by rw [List.length_append]; omega) hh (fun z hz => ht z (List.mem_cons_of_mem _ hz)) x hx
    · rw [if_neg c] at hx
      rcases List.mem_append.1 hx with hx | hx
      · obtain ⟨h1, _, h2⟩ := (cutS_law run h (by omega)).2.1 x hx
        exact ⟨h1, by omega, by omega⟩
      · exact evGo_ok t y.f0 y.f1 (by omega) ⟨hy.2.1, hy.2.2⟩ (fun z hz => ht z (List.mem_cons_of_mem _ hz)) x hx
theorem ev_ok {ps : List S113} (hb : (scells ps).length ≤ 1073741824) (ht : ∀ x ∈ ps, OkPc x) : ∀ x ∈ ev ps, OkPc x := by
  cases ps with
  | nil => intro x hx; cases hx
  | cons y t =>
    rw [scells_cons, List.length_append, List.length_map] at hb
    have hy := ht y List.mem_cons_self
    exact evGo_ok t y.f0 y.f1 hb ⟨hy.2.1, hy.2.2⟩ (fun z hz => ht z (List.mem_cons_of_mem _ hz))
theorem len_scells : ∀ {ps : List S113}, (∀ x ∈ ps, OkPc x) → ps.length ≤ (scells ps).length
  | [], _ => Nat.le_refl _
  | x :: t, h => by
    have := len_scells (fun y hy => h y (List.mem_cons_of_mem _ hy))
    have h1 := List.length_pos_iff.2 (h x List.mem_cons_self).1
    rw [scells_cons, List.length_append, List.length_map, List.length_cons]
    omega
abbrev Pc.s (p : Pc) : S113 := ⟨p.rs, p.hid⟩
theorem Pc.ok {K : Nat → Prop} {W : World} {p : Pc} (h : PieceIn K W p) : OkPc p.s := ⟨h.ne, h.h.1, h.h.2⟩
theorem scells_pc (p : Pc) : scells [p.s] = p.cells := by simp [scells, Pc.cells]
theorem FK_pc {K : Nat → Prop} {W : World} {p : Pc} (h : PieceIn K W p) : Kd.FK k113 W K p.s [.slice p.A p.rs.length p.c, .int .i64 p.hid] :=
  k113_mkF W K p.s h.cap (fun W' hW => h.ra.move (fun ad e hlt => hW _ (h.k ad e) hlt))
theorem N_one {W : World} {base : Nat} {p : S113} {a b : Value} {ok okp : Nat → Prop} (hp : Kd.FK k113 W okp p [a, b]) (hbase : base ≤ W.heap.size) (hok : ∀ k, okp k → ok k) (hfresh : ok W.heap.size) : Kd.N k113 113 (W.alloc (.cells #[a, b] 113)) base ok (.slice (some ⟨W.heap.size, 0, none⟩) 1 1) [p] := by
  have hone : ∀ u ∈ [a, b], u.oneCell' = true := k113.K_one (Kd.FK_now hp)
  have hr : Reps ((Kd.raw 2).M (W.alloc (.cells #[a, b] 113)) base (fun k => k = W.heap.size ∧ some k ≠ (Value.slice (some ⟨W.heap.size, 0, none⟩) 1 1).ownBlock)) 2 [[a, b]] [a, b] := by
    refine ⟨rfl, fun j x hj => ?_⟩
    rcases j with _ | j
    · have : x = [a, b] := by simpa using hj.symm
      subst this
      exact ⟨rfl, rfl, hone⟩
    · simp at hj
  have hR : (Kd.raw 2).R 113 (W.alloc (.cells #[a, b] 113)) base (fun k => k = W.heap.size) (.slice (some ⟨W.heap.size, 0, none⟩) 1 1) [[a, b]] :=
    ⟨fun k hk => by have : W.heap.size = k := by simpa [Value.ownBlock] using hk
                    exact this.symm, OwnRow.lit (e := 113) W base hr hbase (by simp)⟩
  refine Kd.N_made (d := k113) hR (World.grownBy_alloc W _ none) ⟨W.heap.size, by simp [Value.ownBlock], Nat.le_refl _⟩ rfl ?_ hok hfresh
  intro j x c hx hc
  rcases j with _ | j
  · have h1 : x = p := by simpa using hx.symm
    have h2 : c = [a, b] := by simpa using hc.symm
    rw [h1, h2]
    exact hp
  · simp at hx
def Kg (K : Nat → Prop) (n m : Nat) : Nat → Prop := fun k => (K k ∧ k < n) ∨ m ≤ k
theorem Env.grown {K : Nat → Prop} {w0 W W1 : World} {ts : List (Tree × Value)} {ps : List Pc} {bs : List (Nat × Obj)} {row : Option Nat} (h : Env K w0 W ts ps bs) (hg : W.grownBy W1 row) (hb : Below w0.heap.size w0 W1) (hrow : ∀ b, row = some b → ¬ K b ∧ ∀ x ∈ bs, x.1 ≠ b) : Env (Kg K W.heap.size W1.heap.size) w0 W1 ts ps bs := by
  have hm : ∀ k, K k ∧ k < W.heap.size → k < W.heap.size → W1.heap[k]? = W.heap[k]? := fun k hk hlt => hg.block k hlt (fun e => (hrow k e.symm).1 hk.1)
  refine ⟨fun x hx => ?_, fun x hx => ?_, fun x hx => ?_, hb, fun k hk => .inr hk⟩
  · have ht := (h.t x hx).bound
    exact ⟨(ht.rep.move hm).mono (fun k hk => .inl hk), ht.good⟩
  · have hp := (h.p x hx).bound
    exact ⟨hp.ra.move (fun ad e hlt => hm _ (hp.k ad e) hlt), fun ad e => .inl (hp.k ad e), hp.cap, hp.ne, hp.h⟩
  · have hlt := new_lt (h.b x hx)
    exact (hg.block x.1 hlt (fun e => (hrow x.1 e.symm).2 x hx rfl)).trans (h.b x hx)
theorem Kg.sub {K : Nat → Prop} {n m : Nat} (hu : ∀ k, n ≤ k → K k) (hnm : n ≤ m) : ∀ k, Kg K n m k → K k := fun k hk => hk.elim (fun h => h.1) (fun h => hu k (Nat.le_trans hnm h))
theorem Kg.own {K : Nat → Prop} {W W1 : World} {v v1 : Value} (hv : ∀ b, v.ownBlock = some b → ¬ K b) (hat : v1.ownBlock = v.ownBlock ∨ ∃ b, v1.ownBlock = some b ∧ W.heap.size ≤ b) (hlt : ∀ b, v1.ownBlock = some b → b < W1.heap.size) : ∀ b, v1.ownBlock = some b → ¬ Kg K W.heap.size W1.heap.size b := by
  intro b hb hk
  have h1 := hlt b hb
  rcases hk with hk | hk
  · rcases hat with hat | ⟨b', hb', hle⟩
    · exact hv b (by rw [← hat]; exact hb) hk.1
    · rw [hb'] at hb
      injection hb with hb
      omega
  · omega
theorem Env.mono {K K' : Nat → Prop} {w0 W : World} {ts : List (Tree × Value)} {ps : List Pc} {bs : List (Nat × Obj)} (h : Env K w0 W ts ps bs) (hK : ∀ k, K k → K' k) (hu : ∀ k, W.heap.size ≤ k → K' k) : Env K' w0 W ts ps bs :=
  ⟨fun x hx => (h.t x hx).mono hK, fun x hx => (h.p x hx).mono hK, h.b, h.bel, hu⟩
end Go.Proofs.YteeigokkafcaaaaDoorRope
end
section
namespace Go.Proofs.YteeigokkafcaaaaDoorRope
open Go.RowKit Go.Proofs.YteeigokkafcaaaaDoorW.PrintWords Go.Proofs.YteeigokkafcaaaaDoorW.PrintMore Go.Proofs.YteeigokkafcaaaaDoor.Pr
set_option linter.unusedSimpArgs false
set_option linter.unusedVariables false
attribute [local go_sem] run_field2 run_field0
def vis (cs : List (Int × Int)) : Nat := (cs.filter (fun c => c.2 == 0)).length
theorem vis_append (a b : List (Int × Int)) : vis (a ++ b) = vis a + vis b := by simp [vis]
theorem vis_le (a : List (Int × Int)) : vis a ≤ a.length := List.length_filter_le _ _
theorem vis_piece (rs : List Int) (h : Int) : vis (rs.map (fun c => (c, h))) = if h = 0 then rs.length else 0 := by
  unfold vis
  by_cases c : h = 0
  · rw [if_pos c, List.filter_eq_self.2 (fun x hx => by obtain ⟨d, _, rfl⟩ := List.mem_map.1 hx; simpa using c), List.length_map]
  · rw [if_neg c, List.filter_eq_nil_iff.2 (fun x hx => by obtain ⟨d, _, rfl⟩ := List.mem_map.1 hx; simpa using c)]
    rfl
def nth0 : List (Int × Int) → Nat → Nat
  | [], _ => 0
  | c :: cs, p => if c.2 = 0 then (if p = 0 then 0 else 1 + nth0 cs (p - 1)) else 1 + nth0 cs p
theorem nth0_append : ∀ (a b : List (Int × Int)) (p : Nat), nth0 (a ++ b) p = if p < vis a then nth0 a p else a.length + nth0 b (p - vis a)
  | [], b, p => by simp [vis]
  | c :: a, b, p => by
    have ih := nth0_append a b
    have hv : vis (c :: a) = (if c.2 = 0 then 1 else 0) + vis a := by
      unfold vis
      by_cases h : c.2 = 0
      · rw [List.filter_cons_of_pos (by simpa using h), if_pos h, List.length_cons]; omega
      · rw [List.filter_cons_of_neg (by simpa using h), if_neg h]; omega
    rw [List.cons_append, nth0, nth0, hv, List.length_cons]
    by_cases h : c.2 = 0
    · rw [if_pos h, if_pos h, if_pos h]
      by_cases hp : p = 0
      · rw [if_pos hp, if_pos hp, if_pos (by omega)]
      · rw [if_neg hp, if_neg hp, ih]
        by_cases h2 : p - 1 < vis a
        · rw [if_pos h2, if_pos (by omega)]
        · rw [if_neg h2, if_neg (by omega), show p - 1 - vis a = p - (1 + vis a) by omega]; omega
    · rw [if_neg h, if_neg h, if_neg h, ih]
      by_cases h2 : p < vis a
      · rw [if_pos h2, if_pos (by omega)]
      · rw [if_neg h2, if_neg (by omega), show p - vis a = p - (0 + vis a) by omega]; omega
theorem nth0_zero (rs : List Int) : ∀ p, p < rs.length → nth0 (rs.map (fun c => (c, (0 : Int)))) p = p := by
  induction rs with
  | nil => intro p h; simp at h
  | cons r rs ih =>
    intro p h
    rw [List.map_cons, nth0, if_pos rfl]
    by_cases hp : p = 0
    · rw [if_pos hp, hp]
    · rw [if_neg hp, ih (p - 1) (by simp at h; omega)]; omega
theorem nth0_le : ∀ (a : List (Int × Int)) (p : Nat), nth0 a p ≤ a.length
  | [], p => Nat.le_refl _
  | c :: a, p => by
    rw [nth0, List.length_cons]
    have h1 := nth0_le a (p - 1)
    have h2 := nth0_le a p
    by_cases h : c.2 = 0
    · rw [if_pos h]
      by_cases hp : p = 0
      · rw [if_pos hp]; omega
      · rw [if_neg hp]; omega
    · rw [if_neg h]; omega
theorem Tree.Good.shown {t : Tree} (h : t.Good 0) : shownOf t.sm = (vis t.cells : Int) := by
  have hs := h.sums
  have hi := h.cells
  unfold shownOf
  by_cases c : t.sm.mi = 0
  · rw [if_pos c, hs.at_, c]
    rfl
  · rw [if_neg c]
    have hv : vis t.cells = 0 := by
      unfold vis
      rw [List.filter_eq_nil_iff.2]
      · rfl
      · intro d hd e
        have e' : d.2 = 0 := by simpa using e
        have hne : t.cells ≠ [] := fun e => by rw [e] at hd; cases hd
        obtain ⟨⟨x, hx, ex⟩, _⟩ := hs.some_ hne
        have h1 := (hi x hx).1
        have h2 := (hs.lo d hd).1
        omega
    rw [hv]
    rfl
theorem RopeAt.env {K : Nat → Prop} {w : World} {b : Nat} {t : Tree} (h : RopeAt K w b t) : ∃ v, w.cell? ⟨b, 0, none⟩ = some v ∧ Env (KU (fun k => K k ∧ k < w.heap.size) w.heap.size) w w [(t, v)] [] [] ∧ ∃ p, v = .pointer p := by
  obtain ⟨v, hv, ht⟩ := h.h
  refine ⟨v, by simp [World.cell?, hv], ⟨fun x hx => ?_, by simp, by simp, Below.refl _ _, fun k hk => .inr hk⟩, ht.rep.ptr⟩
  have : x = (t, v) := by simpa using hx
  rw [this]
  exact ht.bound.mono (fun k hk => .inl hk)
theorem RopeAt.below {K : Nat → Prop} {w w' : World} {b : Nat} {t : Tree} (h : RopeAt K w b t) (hb : Below w.heap.size w w') : RopeAt K w' b t := by
  obtain ⟨⟨v, hv, ht⟩, hn⟩ := h
  exact ⟨⟨v, (hb.block b (new_lt hv)).trans hv, ht.below hb⟩, hn⟩
theorem all_shown {K : Nat → Prop} {w0 W : World} {ts : List (Tree × Value)} {ps : List Pc} {bs : List (Nat × Obj)} (h : Env K w0 W ts ps bs) {t : Tree} {v : Value} (hm : (t, v) ∈ ts) : Calls Tryd.prog 58 #[v] W fun e w' => e = .returned (smVal t.sm t.ht) ∧ Env K w0 w' ts ps bs :=
  (all_calls (h.t _ hm).rep).mono fun e w' ⟨he, hb⟩ => ⟨he, h.below hb⟩
theorem shown_env {K : Nat → Prop} {w0 W : World} {ts : List (Tree × Value)} {ps : List Pc} {bs : List (Nat × Obj)} (h : Env K w0 W ts ps bs) {t : Tree} {v : Value} (hm : (t, v) ∈ ts) (x : Int) : Calls Tryd.prog 59 #[smVal t.sm x] W fun e w' => e = .returned (.int .i64 (vis t.cells : Int)) ∧ Env K w0 w' ts ps bs :=
  (shown_calls t.sm x W).mono fun e w' ⟨he, hb⟩ => ⟨by rw [he, (h.t _ hm).good.shown], h.below hb⟩
set_option maxRecDepth 100000 in
set_option maxHeartbeats 4000000 in
theorem total_calls {K : Nat → Prop} {w : World} {b : Nat} {t : Tree} (h : RopeAt K w b t) : Calls Tryd.prog 19 #[.pointer (some ⟨b, 0, none⟩)] w fun e w' => e = .returned (.int .i64 (t.cells.length : Int)) ∧ Below w.heap.size w w' := by
  obtain ⟨v, hv, hE, p, rfl⟩ := h.env
  go_enter Tryd.func19, Tryd.ntmps19
  go_wp2_with (go_at_call 58; refine (all_len hE List.mem_cons_self).mono ?_; rintro e w1 ⟨x1, x2, x3, x4, x5, rfl, hE1⟩)
  go_ret
  exact ⟨rfl, hE1.bel⟩
set_option maxRecDepth 100000 in
set_option maxHeartbeats 4000000 in
theorem shownR_calls {K : Nat → Prop} {w : World} {b : Nat} {t : Tree} (h : RopeAt K w b t) : Calls Tryd.prog 20 #[.pointer (some ⟨b, 0, none⟩)] w fun e w' => e = .returned (.int .i64 (vis t.cells : Int)) ∧ Below w.heap.size w w' := by
  obtain ⟨v, hv, hE, p, rfl⟩ := h.env
  go_enter Tryd.func20, Tryd.ntmps20
  go_wp2_with (first
    | (go_at_call 58; refine (all_shown hE List.mem_cons_self).mono ?_; rintro e w1 ⟨rfl, hE1⟩)
    | (go_at_call 59; refine (shown_env hE1 List.mem_cons_self _).mono ?_; rintro e w2 ⟨rfl, hE2⟩))
  go_ret
  exact ⟨rfl, hE2.bel⟩
end Go.Proofs.YteeigokkafcaaaaDoorRope
end
section
namespace Go.Proofs.YteeigokkafcaaaaDoorRope
open Go.RowKit Go.Proofs.YteeigokkafcaaaaDoorW.PrintWords Go.Proofs.YteeigokkafcaaaaDoorW.PrintMore Go.Proofs.YteeigokkafcaaaaDoor.Pr
set_option linter.unusedSimpArgs false
set_option linter.unusedVariables false
attribute [local go_sem] run_field2 run_field0
theorem len_cells (l : Tree) (rs : List Int) (hid : Int) (r : Tree) (plus : Int) : (Tree.node l rs hid r plus).cells.length = (l.lift plus).cells.length + rs.length + (r.lift plus).cells.length := by
  rw [len_open, len_lift, len_lift]
def TotI (K : Nat → Prop) (w : World) (R gk : Nat) (v1 v6 v7 : Value) (wr : World) : Prop :=
  ∃ (t : Tree) (p a : Nat) (q : Option Addr), v1 = .int .i64 (p : Int) ∧ v6 = .int .i64 (a : Int) ∧ v7 = .pointer q ∧ Env K w wr [(t, v7)] [] [] ∧ p < vis t.cells ∧ a + nth0 t.cells p = R ∧ t.size ≤ gk ∧ a + t.cells.length ≤ 1048576
theorem TotI.mk {K : Nat → Prop} {w wr : World} {R gk : Nat} {v7 : Value} {x1 x6 : Int} (t : Tree) (p a : Nat) (h1 : x1 = (p : Int)) (h6 : x6 = (a : Int)) (hE : Env K w wr [(t, v7)] [] []) (hp : p < vis t.cells) (hR : a + nth0 t.cells p = R) (hs : t.size ≤ gk) (ha : a + t.cells.length ≤ 1048576) : TotI K w R gk (.int .i64 x1) (.int .i64 x6) v7 wr := by
  obtain ⟨q, hq⟩ := (hE.t _ List.mem_cons_self).rep.ptr
  exact ⟨t, p, a, q, by rw [h1], by rw [h6], hq, hE, hp, hR, hs, ha⟩
theorem ret_tup {a b : Int} (h : a = b) : Ending.returned (.tuple #[.int .i64 a, .int .i64 0]) = .returned (.tuple #[.int .i64 b, .int .i64 0]) := by rw [h]
set_option maxRecDepth 100000 in
set_option maxHeartbeats 16000000 in
theorem totalOf_yes {K0 : Nat → Prop} {w : World} {b : Nat} {t : Tree} (h : RopeAt K0 w b t) (hsz : t.cells.length ≤ 1048576) (p : Nat) (hp : p < vis t.cells) :
    Calls Tryd.prog 21 #[.pointer (some ⟨b, 0, none⟩), .int .i64 (p : Int)] w fun e w' => e = .returned (.tuple #[.int .i64 (nth0 t.cells p : Int), .int .i64 0]) ∧ Below w.heap.size w w' := by
  have hvl := vis_le t.cells
  have d0 : decide ((p : Int) < 0) = false := decide_eq_false (by omega)
  have d1 : decide (vis t.cells < p) = false := decide_eq_false (by omega)
  have d2 : (p == vis t.cells) = false := beq_eq_false_iff_ne.mpr (by omega)
  have d3 : ((p : Int) == (vis t.cells : Int)) = false := beq_eq_false_iff_ne.mpr (by omega)
  have HP := Lib.hid hp
  have HS := Lib.hid hsz
  clear hp hsz hvl
  obtain ⟨R, hR⟩ : ∃ R, R = nth0 t.cells p := ⟨_, rfl⟩
  rw [← hR]
  have HR := Lib.hid hR
  clear hR
  have tok : True := trivial
  go_enter Tryd.func21, Tryd.ntmps21
  go_wp2_with (first
    | (go_at_call 20; clear tok; refine (shownR_calls h).mono ?_; rintro e w1 ⟨rfl, hb1⟩)
    | (go_at_call 20; refine (shownR_calls (h.below hb1)).mono ?_; rintro e w2 ⟨rfl, hb2⟩; have hb3 := hb1.trans (hb2.mono hb1.size); obtain ⟨v, hv, hE0, q, rfl⟩ := (h.below hb3).env))
  have H0 : TotI (KU (fun k => K0 k ∧ k < w2.heap.size) w2.heap.size) w2 R t.size (.int .i64 (p : Int)) (.int .i64 0) (.pointer q) w2 := TotI.mk t p 0 rfl rfl hE0 HP.out (by rw [HR.out]; omega) (Nat.le_refl _) (by have := HS.out; omega)
  clear d0 d1 d2 d3 HP HS hE0 HR hv hb1 hb2
  generalize KU (fun k => K0 k ∧ k < w2.heap.size) w2.heap.size = K at H0
  go_loopg [1, 6, 7] t.size (fun gk v1 v6 v7 wr => TotI K w2 R gk v1 v6 v7 wr)
  case atStart => exact H0
  case round =>
    clear H0
    obtain ⟨t', p', a, q', rfl, rfl, rfl, hE, hp', hR, hgk, hal⟩ := hrel
    cases t' with
    | nil => exact absurd hp' (by simp [Tree.cells, vis])
    | node l rs hid r plus =>
      have hco := cells_open l rs hid r plus
      have hlc := len_cells l rs hid r plus
      have hva : vis (Tree.node l rs hid r plus).cells = vis (l.lift plus).cells + (if hid + plus = 0 then rs.length else 0) + vis (r.lift plus).cells := by rw [hco, vis_append, vis_append, vis_piece]
      have hna : nth0 (Tree.node l rs hid r plus).cells p' = if p' < vis (l.lift plus).cells then nth0 (l.lift plus).cells p' else (l.lift plus).cells.length + nth0 (rs.map (fun c => (c, hid + plus)) ++ (r.lift plus).cells) (p' - vis (l.lift plus).cells) := by rw [hco, List.append_assoc, nth0_append]
      have hnb := nth0_append (rs.map (fun c => (c, hid + plus))) (r.lift plus).cells (p' - vis (l.lift plus).cells)
      rw [vis_piece, List.length_map] at hnb
      have hsl : (l.lift plus).size = l.size := Tree.size_lift _ _
      have hsr : (r.lift plus).size = r.size := Tree.size_lift _ _
      have hsn : (Tree.node l rs hid r plus).size = l.size + 1 + r.size := rfl
      have hll := vis_le (l.lift plus).cells
      obtain ⟨n, rfl⟩ : ∃ n, gk = n + 1 := ⟨gk - 1, by omega⟩
      obtain ⟨k, hk⟩ : ∃ k, k = vis (l.lift plus).cells := ⟨_, rfl⟩
      rw [← hk] at hva hna hnb hll
      have HK := Lib.hid hk
      clear hk
      by_cases c1 : p' < k
      · rw [if_pos c1] at hna
        have d1 : decide (p' < k) = true := decide_eq_true c1
        have F1 : Hid (∀ wx v1, Env K w2 wx [(l.lift plus, v1)] [] [] → TotI K w2 R n (.int .i64 (p' : Int)) (.int .i64 (a : Int)) v1 wx) := Lib.hid fun wx v1 hX => TotI.mk (l.lift plus) p' a rfl rfl hX (by rw [← HK.out]; exact c1) (by rw [← hR, hna]) (by omega) (by omega)
        clear hco hlc hva hna hnb hsl hsr hsn hll hgk hal hR c1 hp'
        have tok : True := trivial
        go_wp2_with (first
          | (go_at_call 60; refine (open_env hE List.mem_cons_self).mono ?_; rintro e w4 ⟨x1, x2, A4, c4, rfl, hE1⟩)
          | (go_at_call 58; clear tok; refine (all_shown (hE1.box _) List.mem_cons_self).mono ?_; rintro e w5 ⟨rfl, hE2⟩)
          | (go_at_call 59; refine (shown_env hE2 List.mem_cons_self _).mono ?_; rw [← HK.out]; rintro e w6 ⟨rfl, hE4⟩))
        go_roundg n
        case measure => omega
        case rel => exact F1.out _ _ (hE4.sub (by simp) (by simp) (by simp))
      · rw [if_neg c1] at hna
        have d1 : decide (p' < k) = false := decide_eq_false c1
        by_cases c2 : hid + plus = 0
        · rw [if_pos c2] at hva hnb
          have d2 : (hid + plus == 0) = true := beq_iff_eq.mpr c2
          by_cases c3 : p' - k < rs.length
          · rw [if_pos c3, c2, nth0_zero rs _ c3] at hnb
            rw [c2, hnb] at hna
            have d3 : decide ((p' : Int) - (k : Int) < (rs.length : Int)) = true := decide_eq_true (by omega)
            have d4 : (p' : Int) - (k : Int) < (rs.length : Int) := by omega
            have e1 : ((a : Int) + ((l.lift plus).cells.length : Int)) + ((p' : Int) - (k : Int)) = (R : Int) := by rw [← hR, hna]; omega
            have b1 : ((l.lift plus).cells.length : Int) ≤ 1048576 := by omega
            have b2 : (a : Int) + ((l.lift plus).cells.length : Int) ≤ 1048576 := by omega
            have b3 : (p' : Int) ≤ 1048576 := by have := vis_le (Tree.node l rs hid r plus).cells; omega
            have b4 : (k : Int) ≤ (p' : Int) := by omega
            have E1 := Lib.hid e1
            clear hco hlc hva hna hnb hsl hsr hsn hll hgk hal hR c1 c3 hp' c2 e1
            have tok : True := trivial
            go_wp2_with (first
              | (go_at_call 60; refine (open_env hE List.mem_cons_self).mono ?_; rintro e w4 ⟨x1, x2, A4, c4, rfl, hE1⟩)
              | (go_at_call 58; clear tok; refine (all_shown (hE1.box _) List.mem_cons_self).mono ?_; rintro e w5 ⟨rfl, hE2⟩)
              | (go_at_call 59; refine (shown_env hE2 List.mem_cons_self _).mono ?_; rw [← HK.out]; rintro e w6 ⟨rfl, hE4⟩)
              | (go_at_call 58; refine (all_len hE4 List.mem_cons_self).mono ?_; rintro e w7 ⟨y1, y2, y3, y4, y5, rfl, hE5⟩; have z0 := hE5.cell0 (p := ⟨rs, hid + plus, A4, c4⟩) List.mem_cons_self; have z1 := hE5.cell1 (p := ⟨rs, hid + plus, A4, c4⟩) List.mem_cons_self; dsimp only at z0 z1))
            go_ret2
            exact ⟨ret_tup E1.out, hb3.trans (hE5.bel.mono hb3.size)⟩
          · rw [if_neg c3] at hnb
            rw [hnb] at hna
            have d3 : decide ((p' : Int) - (k : Int) < (rs.length : Int)) = false := decide_eq_false (by omega)
            have d4 : (rs.length : Int) ≤ (p' : Int) - (k : Int) := by omega
            have F1 : Hid (∀ wx v1 x1 x6, x1 = ((p' : Int) - (k : Int)) - (rs.length : Int) → x6 = ((a : Int) + ((l.lift plus).cells.length : Int)) + (rs.length : Int) → Env K w2 wx [(r.lift plus, v1)] [] [] → TotI K w2 R n (.int .i64 x1) (.int .i64 x6) v1 wx) := Lib.hid fun wx v1 x1 x6 g1 g6 hX => TotI.mk (r.lift plus) (p' - k - rs.length) (a + (l.lift plus).cells.length + rs.length) (by omega) (by omega) hX (by omega) (by rw [← hR, hna]; omega) (by omega) (by omega)
            have b1 : ((l.lift plus).cells.length : Int) ≤ 1048576 := by omega
            have b2 : (a : Int) + ((l.lift plus).cells.length : Int) ≤ 1048576 := by omega
            have b5 : (a : Int) + ((l.lift plus).cells.length : Int) + (rs.length : Int) ≤ 1048576 := by omega
            have b3 : (p' : Int) ≤ 1048576 := by have := vis_le (Tree.node l rs hid r plus).cells; omega
            have b4 : (k : Int) ≤ (p' : Int) := by omega
            clear hco hlc hva hna hnb hsl hsr hsn hll hgk hal hR c1 c3 hp' c2
            have tok : True := trivial
            go_wp2_with (first
              | (go_at_call 60; refine (open_env hE List.mem_cons_self).mono ?_; rintro e w4 ⟨x1, x2, A4, c4, rfl, hE1⟩)
              | (go_at_call 58; clear tok; refine (all_shown (hE1.box _) List.mem_cons_self).mono ?_; rintro e w5 ⟨rfl, hE2⟩)
              | (go_at_call 59; refine (shown_env hE2 List.mem_cons_self _).mono ?_; rw [← HK.out]; rintro e w6 ⟨rfl, hE4⟩)
              | (go_at_call 58; refine (all_len hE4 List.mem_cons_self).mono ?_; rintro e w7 ⟨y1, y2, y3, y4, y5, rfl, hE5⟩; have z0 := hE5.cell0 (p := ⟨rs, hid + plus, A4, c4⟩) List.mem_cons_self; have z1 := hE5.cell1 (p := ⟨rs, hid + plus, A4, c4⟩) List.mem_cons_self; dsimp only at z0 z1))
            go_roundg n
            case measure => omega
            case rel => exact F1.out _ _ _ _ rfl rfl (hE5.sub (by simp) (by simp) (by simp))
        · rw [if_neg c2] at hva hnb
          rw [if_neg (by omega)] at hnb
          rw [hnb] at hna
          have d2 : (hid + plus == 0) = false := beq_eq_false_iff_ne.mpr c2
          have F1 : Hid (∀ wx v1 x1 x6, x1 = ((p' : Int) - (k : Int)) → x6 = ((a : Int) + ((l.lift plus).cells.length : Int)) + (rs.length : Int) → Env K w2 wx [(r.lift plus, v1)] [] [] → TotI K w2 R n (.int .i64 x1) (.int .i64 x6) v1 wx) := Lib.hid fun wx v1 x1 x6 g1 g6 hX => TotI.mk (r.lift plus) (p' - k) (a + (l.lift plus).cells.length + rs.length) (by omega) (by omega) hX (by omega) (by rw [← hR, hna, Nat.sub_zero]; omega) (by omega) (by omega)
          have b1 : ((l.lift plus).cells.length : Int) ≤ 1048576 := by omega
          have b2 : (a : Int) + ((l.lift plus).cells.length : Int) ≤ 1048576 := by omega
          have b5 : (a : Int) + ((l.lift plus).cells.length : Int) + (rs.length : Int) ≤ 1048576 := by omega
          have b3 : (p' : Int) ≤ 1048576 := by have := vis_le (Tree.node l rs hid r plus).cells; omega
          have b4 : (k : Int) ≤ (p' : Int) := by omega
          clear hco hlc hva hna hnb hsl hsr hsn hll hgk hal hR c1 hp' c2
          have tok : True := trivial
          go_wp2_with (first
            | (go_at_call 60; refine (open_env hE List.mem_cons_self).mono ?_; rintro e w4 ⟨x1, x2, A4, c4, rfl, hE1⟩)
            | (go_at_call 58; clear tok; refine (all_shown (hE1.box _) List.mem_cons_self).mono ?_; rintro e w5 ⟨rfl, hE2⟩)
            | (go_at_call 59; refine (shown_env hE2 List.mem_cons_self _).mono ?_; rw [← HK.out]; rintro e w6 ⟨rfl, hE4⟩)
            | (go_at_call 58; refine (all_len hE4 List.mem_cons_self).mono ?_; rintro e w7 ⟨y1, y2, y3, y4, y5, rfl, hE5⟩; have z0 := hE5.cell0 (p := ⟨rs, hid + plus, A4, c4⟩) List.mem_cons_self; have z1 := hE5.cell1 (p := ⟨rs, hid + plus, A4, c4⟩) List.mem_cons_self; dsimp only at z0 z1))
          go_roundg n
          case measure => omega
          case rel => exact F1.out _ _ _ _ rfl rfl (hE5.sub (by simp) (by simp) (by simp))
end Go.Proofs.YteeigokkafcaaaaDoorRope
end
section
namespace Go.Proofs.YteeigokkafcaaaaDoorRope
open Go.RowKit Go.Proofs.YteeigokkafcaaaaDoorW.PrintWords Go.Proofs.YteeigokkafcaaaaDoorW.PrintMore Go.Proofs.YteeigokkafcaaaaDoor.Pr
set_option linter.unusedSimpArgs false
set_option linter.unusedVariables false
attribute [local go_sem] run_field2 run_field0 max2_int min2_int
theorem Rep.some {K : Nat → Prop} {W : World} {l r : Tree} {rs : List Int} {hid plus : Int} {q : Option Addr} (h : Rep K W (.node l rs hid r plus) (.pointer q)) : ∃ ad, q = Option.some ad := by
  obtain ⟨a, vl, vr, A, c, e, _⟩ := h
  injection e with e
  exact ⟨_, e⟩
theorem Rep.none {K : Nat → Prop} {W : World} {q : Option Addr} (h : Rep K W .nil (.pointer q)) : q = Option.none := by
  have e : Value.pointer q = .pointer Option.none := h
  injection e
end Go.Proofs.YteeigokkafcaaaaDoorRope
end
section
namespace Go.Proofs.YteeigokkafcaaaaDoorRope
open Go.RowKit Go.Proofs.YteeigokkafcaaaaDoorW.PrintWords Go.Proofs.YteeigokkafcaaaaDoorW.PrintMore Go.Proofs.YteeigokkafcaaaaDoor.Pr
set_option linter.unusedSimpArgs false
set_option linter.unusedVariables false
theorem evened_pcs {sq : List S113} (hlen : (scells sq).length ≤ 1073741824) (hok : ∀ x ∈ sq, OkPc x) {w : World} {A : Option Addr} {c : Nat} (hA : Kd.C k113 w A sq.length sq) (hc : sq.length ≤ c) :
    Calls Tryd.prog 105 #[.slice A sq.length c] w fun e w' => ∃ A' c' qs, e = .returned (.slice A' qs.length c') ∧ pcells qs = scells sq ∧ qs.length ≤ (scells sq).length ∧ PcsAt w' A' qs ∧ (∀ q ∈ qs, PieceIn (fun b => w.heap.size ≤ b) w' q) ∧ Below w.heap.size w w' := by
  have hl := len_scells hok
  refine (evened_calls hlen (by omega) hA hc).mono ?_
  rintro e w' ⟨v, he, hN, hb⟩
  obtain ⟨A', c', qs, rfl, _, hqs, hP, hK⟩ := pcs_of_N hN (ev_ok hlen hok)
  have hcs : pcells qs = scells sq := by rw [pcells_scells, hqs, ev_cells sq hlen]
  refine ⟨A', c', qs, he, hcs, ?_, hP, hK, hb⟩
  have h1 := len_scells (ev_ok hlen hok)
  rw [ev_cells sq hlen, ← hqs, List.length_map] at h1
  exact h1
def Mended (K : Nat → Prop) (w0 : World) (ts : List (Tree × Value)) (ps : List Pc) (bs : List (Nat × Obj)) (cs : List (Int × Int)) (e : Ending) (w' : World) : Prop := ∃ t p, e = .returned (.pointer p) ∧ Env K w0 w' ((t, .pointer p) :: ts) ps bs ∧ t.cells = cs
structure Beside (K0 K : Nat → Prop) (w0 W wx : World) (ts : List (Tree × Value)) (ps : List Pc) (bs : List (Nat × Obj)) (A : Option Addr) (c : Nat) (sq : List S113) : Prop where
  sub : ∀ k, K k → K0 k
  env : Env K w0 wx ts ps bs
  row : Kd.N k113 113 wx W.heap.size (fun _ => True) (.slice A sq.length c) sq
  own : ∀ b, (Value.slice A sq.length c).ownBlock = some b → ¬ K b
  ok : ∀ x ∈ sq, OkPc x
  bel : Below W.heap.size W wx
  box : ∀ x ∈ bs, x.1 < W.heap.size
  ws : w0.heap.size ≤ W.heap.size
def MenL (K0 : Nat → Prop) (w0 W : World) (ts : List (Tree × Value)) (ps : List Pc) (bs : List (Nat × Obj)) (L : List (Int × Int)) (v0 v5 v14 : Value) (wx : World) : Prop :=
  ∃ (j : Nat) (K : Nat → Prop) (l : Tree) (sq : List S113) (q A : Option Addr) (c : Nat), v14 = .int .i64 (j : Int) ∧ j ≤ 2 ∧ v0 = .pointer q ∧ v5 = .slice A sq.length c ∧ Beside K0 K w0 W wx ((l, .pointer q) :: ts) ps bs A c sq ∧ l.cells ++ scells sq = L ∧ sq.length ≤ j
theorem MenL.mk {K0 K : Nat → Prop} {w0 W wx : World} {ts : List (Tree × Value)} {ps : List Pc} {bs : List (Nat × Obj)} {L : List (Int × Int)} {v0 v5 : Value} {x14 : Int} (j : Nat) (l : Tree) (sq : List S113) (h14 : x14 = (j : Int)) (hj : j ≤ 2) (hs : ∀ k, K k → K0 k) (hE : Env K w0 wx ((l, v0) :: ts) ps bs) (hN : Kd.N k113 113 wx W.heap.size (fun _ => True) v5 sq) (ho : ∀ b, v5.ownBlock = some b → ¬ K b) (hok : ∀ x ∈ sq, OkPc x) (hB : Below W.heap.size W wx) (hbs : ∀ x ∈ bs, x.1 < W.heap.size) (hws : w0.heap.size ≤ W.heap.size) (hc : l.cells ++ scells sq = L) (hl : sq.length ≤ j) : MenL K0 w0 W ts ps bs L v0 v5 (.int .i64 x14) wx := by
  obtain ⟨q, rfl⟩ := (hE.t _ List.mem_cons_self).rep.ptr
  obtain ⟨A, c, rfl⟩ := Kd.N_slice hN
  exact ⟨j, K, l, sq, q, A, c, by rw [h14], hj, rfl, rfl, ⟨hs, hE, hN, ho, hok, hB, hbs, hws⟩, hc, hl⟩
def MenR (K0 : Nat → Prop) (w0 W : World) (ts : List (Tree × Value)) (ps : List Pc) (bs : List (Nat × Obj)) (C : List (Int × Int)) (l : Tree) (vl v1 v5 v29 : Value) (wx : World) : Prop :=
  ∃ (j : Nat) (K : Nat → Prop) (r : Tree) (sq : List S113) (q A : Option Addr) (c : Nat), v29 = .int .i64 (j : Int) ∧ j ≤ 2 ∧ v1 = .pointer q ∧ v5 = .slice A sq.length c ∧ Beside K0 K w0 W wx ((r, .pointer q) :: (l, vl) :: ts) ps bs A c sq ∧ l.cells ++ scells sq ++ r.cells = C ∧ sq.length ≤ 2 + j
theorem MenR.mk {K0 K : Nat → Prop} {w0 W wx : World} {ts : List (Tree × Value)} {ps : List Pc} {bs : List (Nat × Obj)} {C : List (Int × Int)} {l : Tree} {vl v1 v5 : Value} {x29 : Int} (j : Nat) (r : Tree) (sq : List S113) (h14 : x29 = (j : Int)) (hj : j ≤ 2) (hs : ∀ k, K k → K0 k) (hE : Env K w0 wx ((r, v1) :: (l, vl) :: ts) ps bs) (hN : Kd.N k113 113 wx W.heap.size (fun _ => True) v5 sq) (ho : ∀ b, v5.ownBlock = some b → ¬ K b) (hok : ∀ x ∈ sq, OkPc x) (hB : Below W.heap.size W wx) (hbs : ∀ x ∈ bs, x.1 < W.heap.size) (hws : w0.heap.size ≤ W.heap.size) (hc : l.cells ++ scells sq ++ r.cells = C) (hl : sq.length ≤ 2 + j) : MenR K0 w0 W ts ps bs C l vl v1 v5 (.int .i64 x29) wx := by
  obtain ⟨q, rfl⟩ := (hE.t _ List.mem_cons_self).rep.ptr
  obtain ⟨A, c, rfl⟩ := Kd.N_slice hN
  exact ⟨j, K, r, sq, q, A, c, by rw [h14], hj, rfl, rfl, ⟨hs, hE, hN, ho, hok, hB, hbs, hws⟩, hc, hl⟩
def MenJ (K : Nat → Prop) (w0 w7 : World) (ts : List (Tree × Value)) (ps : List Pc) (bs : List (Nat × Obj)) (lc : List (Int × Int)) (qs : List Pc) (r : Tree) (vr v0 v47 : Value) (wx : World) : Prop :=
  ∃ (i : Nat) (l : Tree) (q : Option Addr), v47 = .int .i64 (i : Int) ∧ i ≤ qs.length ∧ v0 = .pointer q ∧ Env K w0 wx ((l, .pointer q) :: (r, vr) :: ts) (qs ++ ps) bs ∧ l.cells = lc ++ pcells (qs.take i) ∧ Below w7.heap.size w7 wx
theorem MenJ.mk {K : Nat → Prop} {w0 w7 wx : World} {ts : List (Tree × Value)} {ps : List Pc} {bs : List (Nat × Obj)} {lc : List (Int × Int)} {qs : List Pc} {r : Tree} {vr v0 : Value} {x : Int} (i : Nat) (l : Tree) (hx : x = (i : Int)) (hi : i ≤ qs.length) (hE : Env K w0 wx ((l, v0) :: (r, vr) :: ts) (qs ++ ps) bs) (hc : l.cells = lc ++ pcells (qs.take i)) (hB : Below w7.heap.size w7 wx) : MenJ K w0 w7 ts ps bs lc qs r vr v0 (.int .i64 x) wx := by
  obtain ⟨q, rfl⟩ := (hE.t _ List.mem_cons_self).rep.ptr
  exact ⟨i, l, q, by rw [hx], hi, rfl, hE, hc, hB⟩
section
variable {K0 K : Nat → Prop} {w0 W wx w1 w8 : World} {ts : List (Tree × Value)} {ps : List Pc} {bs : List (Nat × Obj)} {A : Option Addr} {c : Nat} {sq : List S113} {v8 : Value}
theorem pcells_take {qs : List Pc} {i : Nat} (hi : i < qs.length) : pcells (qs.take (i + 1)) = pcells (qs.take i) ++ qs[i].cells := by
  rw [List.take_succ_eq_append_getElem hi, pcells, List.flatMap_append]
  simp [pcells]
theorem menL_step {l t : Tree} {v : Value} {q : Option Addr} {p : Pc} {j : Nat} {L : List (Int × Int)} (hb : Beside K0 K w0 W wx ((l, .pointer q) :: ts) ps bs A c sq) (hL : l.cells ++ scells sq = L) (hl : sq.length ≤ j) (hj : j < 2)
    (hE1 : Env K w0 w1 ((t, v) :: (l, .pointer q) :: ts) (p :: ps) bs) (hb1 : Below wx.heap.size wx w1) (hc : t.cells ++ p.cells = l.cells)
    (hN8 : Kd.N k113 113 w8 W.heap.size (fun _ => True) v8 ([p.s] ++ sq)) (hB8 : Below W.heap.size W w8) (hg8 : ((w1.alloc p.obj).alloc p.obj).grownBy w8 (some (w1.heap.size + 1)))
    (hat8 : v8.ownBlock = some (w1.heap.size + 1) ∨ ∃ b, v8.ownBlock = some b ∧ ((w1.alloc p.obj).alloc p.obj).heap.size ≤ b) {x : Int} (hx : x = (j : Int) + 1) : MenL K0 w0 W ts ps bs L v v8 (.int .i64 x) w8 := by
  have z3 : ((w1.alloc p.obj).alloc p.obj).heap.size = w1.heap.size + 1 + 1 := by simp
  have hb3 : Below w1.heap.size w1 ((w1.alloc p.obj).alloc p.obj) := ((Below.refl _ w1).alloc (Nat.le_refl _) _).alloc (by simp) _
  have hE3 : Env (Kg K w1.heap.size ((w1.alloc p.obj).alloc p.obj).heap.size) w0 ((w1.alloc p.obj).alloc p.obj) ((t, v) :: (l, .pointer q) :: ts) (p :: ps) bs := hE1.grown (grown_of_below hb3 none) (hE1.bel.trans (hb3.mono hE1.bel.size)) (fun b e => by cases e)
  have hw0 := hE3.bel.size
  have hww : W.heap.size ≤ w1.heap.size := Nat.le_trans hb.bel.size hb1.size
  have hnk : ∀ b, some (w1.heap.size + 1) = some b → ¬ Kg K w1.heap.size ((w1.alloc p.obj).alloc p.obj).heap.size b := by
    intro b e hk
    injection e with e
    rcases hk with hk | hk
    · have := hk.2; omega
    · omega
  have hE8 := hE3.grown hg8 (hE3.bel.trans ⟨hg8.os, hg8.tape, hg8.output, hg8.size, fun k hk => hg8.block k (Nat.lt_of_lt_of_le hk hw0) (fun e => by injection e with e; have := hE1.bel.size; omega)⟩) (fun b e => ⟨hnk b e, fun x hx e2 => by injection e with e; have := hb.box x hx; omega⟩)
  refine MenL.mk (j + 1) t ([p.s] ++ sq) (by omega) hj (fun k hk => hb.sub k ?_) (hE8.sub (sub_keep fun y hy => u1 hy) (fun y hy => u1 hy) (fun y hy => hy)) hN8 ?_ ?_ hB8 hb.box hb.ws ?_ (by simp; omega)
  · exact Kg.sub hE1.up hb3.size k (Kg.sub hE3.up hg8.size k hk)
  · refine Kg.own (v := .slice (some ⟨w1.heap.size + 1, 0, none⟩) 1 1) (fun b e => hnk b (by simpa [Value.ownBlock] using e)) (by simpa [Value.ownBlock] using hat8) (Kd.N_lt hN8)
  · intro x hx
    rcases List.mem_append.1 hx with hx | hx
    · have : x = p.s := by simpa using hx
      rw [this]; exact Pc.ok (hE1.p _ List.mem_cons_self)
    · exact hb.ok x hx
  · rw [scells_append, scells_pc, ← List.append_assoc, hc, hL]
theorem menR_step {l r t : Tree} {vl v : Value} {q : Option Addr} {p : Pc} {j : Nat} {C : List (Int × Int)} (hb : Beside K0 K w0 W wx ((r, .pointer q) :: (l, vl) :: ts) ps bs A c sq) (hC : l.cells ++ scells sq ++ r.cells = C) (hl : sq.length ≤ 2 + j) (hj : j < 2)
    (hE1 : Env K w0 w1 ((t, v) :: (r, .pointer q) :: (l, vl) :: ts) (p :: ps) bs) (hc : p.cells ++ t.cells = r.cells)
    (hN8 : Kd.N k113 113 w8 W.heap.size (fun _ => True) v8 (sq ++ [p.s])) (hB8 : Below W.heap.size W w8) (hg8 : (w1.alloc p.obj).grownBy w8 (Value.slice A sq.length c).ownBlock)
    (hat8 : v8.ownBlock = (Value.slice A sq.length c).ownBlock ∨ ∃ b, v8.ownBlock = some b ∧ (w1.alloc p.obj).heap.size ≤ b) {x : Int} (hx : x = (j : Int) + 1) : MenR K0 w0 W ts ps bs C l vl v v8 (.int .i64 x) w8 := by
  have hE3 := hE1.idle p.obj
  have hw0 := hE3.bel.size
  have hrow : ∀ b, (Value.slice A sq.length c).ownBlock = some b → W.heap.size ≤ b := fun b e => Kd.N_base hb.row b e
  have hw0W : w0.heap.size ≤ W.heap.size ∨ True := .inr trivial
  have hE8 := hE3.grown hg8 (hE3.bel.trans ⟨hg8.os, hg8.tape, hg8.output, hg8.size, fun k hk => hg8.block k (Nat.lt_of_lt_of_le hk hw0) (fun e => ?_)⟩) (fun b e => ⟨hb.own b e, fun x hx e2 => by have := hb.box x hx; have := hrow b e; omega⟩)
  · refine MenR.mk (j + 1) t (sq ++ [p.s]) (by omega) hj (fun k hk => hb.sub k ?_) (hE8.sub (sub_keep fun y hy => u1 hy) (fun y hy => u1 hy) (fun y hy => hy)) hN8 ?_ ?_ hB8 hb.box hb.ws ?_ (by simp; omega)
    · exact Kg.sub hE3.up hg8.size k hk
    · exact Kg.own hb.own hat8 (Kd.N_lt hN8)
    · intro x hx
      rcases List.mem_append.1 hx with hx | hx
      · exact hb.ok x hx
      · have : x = p.s := by simpa using hx
        rw [this]; exact Pc.ok (hE1.p _ List.mem_cons_self)
    · rw [scells_append, scells_pc, ← hC, ← hc]
      simp only [List.append_assoc]
  · have h1 := hrow k e.symm
    have h2 := hb.ws
    omega
end
end Go.Proofs.YteeigokkafcaaaaDoorRope
end
section
namespace Go.Proofs.YteeigokkafcaaaaDoorRope
open Go.RowKit Go.Proofs.YteeigokkafcaaaaDoorW.PrintWords Go.Proofs.YteeigokkafcaaaaDoorW.PrintMore Go.Proofs.YteeigokkafcaaaaDoor.Pr
set_option linter.unusedSimpArgs false
set_option linter.unusedVariables false
attribute [local go_sem] run_field2 run_field0
theorem Env.addPs {K : Nat → Prop} {w0 W : World} {ts : List (Tree × Value)} {ps qs : List Pc} {bs : List (Nat × Obj)} (h : Env K w0 W ts ps bs) (hq : ∀ q ∈ qs, PieceIn K W q) : Env K w0 W ts (qs ++ ps) bs := ⟨h.t, fun x hx => (List.mem_append.1 hx).elim (hq x) (h.p x), h.b, h.bel, h.up⟩
theorem Env.rebase {K : Nat → Prop} {w0 W : World} {ts : List (Tree × Value)} {ps : List Pc} {bs : List (Nat × Obj)} (h : Env K w0 W ts ps bs) : Env K W W ts ps bs := ⟨h.t, h.p, h.b, Below.refl _ _, h.up⟩
theorem Env.onto {K : Nat → Prop} {w0 W W' : World} {ts ts' : List (Tree × Value)} {ps ps' : List Pc} {bs bs' : List (Nat × Obj)} (h : Env K W W' ts ps bs) (h0 : Env K w0 W ts' ps' bs') : Env K w0 W' ts ps bs := ⟨h.t, h.p, h.b, h0.bel.trans (h.bel.mono h0.bel.size), h.up⟩
section
variable {K0 K : Nat → Prop} {w0 W wx w1 : World} {ts ts' : List (Tree × Value)} {ps : List Pc} {bs : List (Nat × Obj)} {A : Option Addr} {c : Nat} {sq : List S113}
theorem menL_app {p : Pc} (hb : Beside K0 K w0 W wx ts ps bs A c sq) (hE1 : Env K wx w1 ts' (p :: ps) bs) : Kd.N k113 113 ((w1.alloc p.obj).alloc p.obj) W.heap.size (fun _ => True) (.slice (some ⟨w1.heap.size + 1, 0, none⟩) 1 1) [p.s] ∧ Kd.F k113 ((w1.alloc p.obj).alloc p.obj) (fun k => k < w1.heap.size) A sq.length sq ∧ Below W.heap.size W ((w1.alloc p.obj).alloc p.obj) ∧ (∀ k, k < w1.heap.size → True ∧ some k ≠ (Value.slice (some ⟨w1.heap.size + 1, 0, none⟩) 1 1).ownBlock) := by
  have hb3 : Below w1.heap.size w1 ((w1.alloc p.obj).alloc p.obj) := ((Below.refl _ w1).alloc (Nat.le_refl _) _).alloc (by simp) _
  have hB1 := hb.bel.trans (hE1.bel.mono hb.bel.size)
  refine ⟨?_, ?_, hB1.trans (hb3.mono hB1.size), fun k hk => ⟨trivial, fun e => absurd (show k = w1.heap.size + 1 by simpa [Value.ownBlock] using e) (by omega)⟩⟩
  · have hp := (hE1.idle p.obj).p _ (List.mem_cons_self)
    have := N_one (W := w1.alloc p.obj) (base := W.heap.size) (ok := fun _ => True) (FK_pc hp) (by have := hB1.size; simp; omega) (fun _ _ => trivial) trivial
    simpa using this
  · have h1 := Kd.N_F (Kd.N_mono (Kd.N_bound (Kd.N_below hb.row hE1.bel)) (ok' := fun k => k < w1.heap.size) (fun k hk => hk.2))
    exact Kd.F_below h1 hb3
theorem menR_app {p : Pc} (hb : Beside K0 K w0 W wx ts ps bs A c sq) (hE1 : Env K wx w1 ts' (p :: ps) bs) : Kd.FK k113 (w1.alloc p.obj) K p.s [.slice p.A p.rs.length p.c, .int .i64 p.hid] ∧ (∀ k, K k → True ∧ some k ≠ (Value.slice A sq.length c).ownBlock) ∧ Kd.N k113 113 (w1.alloc p.obj) W.heap.size (fun _ => True) (.slice A sq.length c) sq ∧ Below W.heap.size W (w1.alloc p.obj) := by
  have hB1 := hb.bel.trans (hE1.bel.mono hb.bel.size)
  exact ⟨FK_pc ((hE1.idle p.obj).p _ List.mem_cons_self), fun k hk => ⟨trivial, fun e => hb.own k e.symm hk⟩, Kd.N_alloc (Kd.N_below hb.row hE1.bel) _, hB1.alloc hB1.size _⟩
end
set_option maxRecDepth 100000 in
set_option maxHeartbeats 16000000 in
theorem mend_env {K0 : Nat → Prop} {w0 W : World} {ts : List (Tree × Value)} {ps : List Pc} {bs : List (Nat × Obj)} (h : Env K0 w0 W ts ps bs) {l r : Tree} {vl vr : Value} (hl : (l, vl) ∈ ts) (hr : (r, vr) ∈ ts) (hsz : l.cells.length + r.cells.length ≤ 536870912) :
    Calls Tryd.prog 73 #[vl, vr] W (Mended K0 w0 ts ps bs (l.cells ++ r.cells)) := by
  obtain ⟨ql, rfl⟩ := (h.t _ hl).rep.ptr
  obtain ⟨qr, rfl⟩ := (h.t _ hr).rep.ptr
  have H0 : MenL K0 w0 W ts ps bs l.cells (.pointer ql) (.slice none 0 0) (.int .i64 0) W := MenL.mk 0 l [] rfl (by decide) (fun k hk => hk) (h.addT (h.t _ hl)) (Kd.N_nil _ _ _ _ _) (fun b e => by simp [Value.ownBlock] at e) (by simp) (Below.refl _ _) (fun x hx => new_lt (h.b x hx)) h.bel.size (by simp [scells]) (Nat.le_refl _)
  obtain ⟨L, hL⟩ : ∃ L, L = l.cells := ⟨_, rfl⟩
  obtain ⟨R, hR⟩ : ∃ R, R = r.cells := ⟨_, rfl⟩
  rw [← hL, ← hR] at hsz ⊢
  rw [← hL] at H0
  have HS := Lib.hid hsz
  have HR := Lib.hid hR
  have HL := Lib.hid hL
  clear hsz hL hR
  go_enter Tryd.func73, Tryd.ntmps73
  go_wp2
  go_loopw [0, 5, 14] (fun v0 v5 v14 wx => MenL K0 w0 W ts ps bs L v0 v5 v14 wx) (fun _ _ i _ => 2 - (intOf i).toNat)
  case atStart => exact H0
  case round =>
    clear H0
    obtain ⟨j, K, t, sq, q, A, c, rfl, hj, rfl, rfl, hb, hLc, hsl⟩ := hrel
    by_cases hjl : j < 2
    · have t1 : decide ((j : Int) < 2) = true := decide_eq_true (by omega)
      have j1 : (j : Int) < 2 := by omega
      cases t with
      | nil =>
        have hq := (hb.env.t _ List.mem_cons_self).rep.none
        subst hq
        have HLc := Lib.hid hLc
        have HB := Lib.hid hb
        clear hLc hb
        go_wp2
        go_roundw
        case rel => exact MenL.mk (j + 1) .nil sq rfl hjl HB.out.sub HB.out.env HB.out.row HB.out.own HB.out.ok HB.out.bel HB.out.box HB.out.ws HLc.out (by omega)
        case measure => simp [intOf]; omega
      | node tl rs hid tr plus =>
        obtain ⟨ad, had⟩ := (hb.env.t _ List.mem_cons_self).rep.some
        subst had
        have hsz1 : (Tree.node tl rs hid tr plus).cells.length ≤ 1073741824 := by
          have h1 := congrArg List.length hLc
          rw [List.length_append] at h1
          have := HS.out
          omega
        have hpop := popLast_env hb.env.rebase List.mem_cons_self hsz1
        have HP := Lib.hid hpop
        have HLc := Lib.hid hLc
        have HB := Lib.hid hb
        have hl32 : Hid ((([⟨[], 0⟩] : List S113).length + sq.length) * 32 ≤ 140737488355328) := Lib.hid (by simp; omega)
        clear hLc hb hpop hsz1
        go_wp2_with (first
          | (go_at_call 103; refine HP.out.mono ?_; rintro e w1 ⟨t', v', p, rfl, hE1, hc1⟩; have HC1 := Lib.hid hc1; clear hc1; have HAP := Lib.hid (menL_app HB.out hE1))
          | ((with_reducible refine gate_builtin (b := .append) (xs := #[.tmp 25, .tmp 26]) rfl ?_); at_builtin; refine Kd.N_append_rows k113 (w0 := W) W.heap.size rfl (.tmp 25) (.tmp 26) 101 113 (.agg #[.slice none 0 0, .int .i64 0]) 32 rfl Tryd.underlying101 info113 rfl (by decide) (by decide) _ [p.s] sq A sq.length c (fun _ => True) (fun k => k < w1.heap.size) rfl rfl HAP.out.1 HAP.out.2.1 HAP.out.2.2.2 (fun _ _ => trivial) HAP.out.2.2.1 HAP.out.2.2.1.size hl32.out ?_; intro v8 w8 hN8 hB8 hg8 hat8))
        have HF := Lib.hid (menL_step (x := (j : Int) + 1) HB.out HLc.out hsl hjl (hE1.onto HB.out.env) hE1.bel HC1.out hN8 hB8 hg8 hat8 rfl)
        clear hN8 hB8 hg8 hat8 HAP hE1
        go_wp2
        go_roundw
        case rel => exact HF.out
        case measure => simp [intOf]; omega
    · have t1 : decide ((j : Int) < 2) = false := decide_eq_false (by omega)
      have hrm := hb.env.t (r, .pointer qr) (u1 hr)
      have H1 : MenR K0 w0 W ts ps bs (L ++ R) t (.pointer q) (.pointer qr) (.slice A sq.length c) (.int .i64 0) wr := MenR.mk 0 r sq rfl (by decide) hb.sub (hb.env.addT hrm) hb.row hb.own hb.ok hb.bel hb.box hb.ws (by rw [hLc, HR.out]) (by omega)
      clear hb hLc hsl hrm hj hjl
      obtain ⟨n2, hn2⟩ : ∃ n2 : Nat, n2 = sq.length := ⟨_, rfl⟩
      rw [← hn2] at H1 ⊢
      clear hn2
      go_wp2
      go_loopw [1, 5, 29] (fun v1 v5 v29 wx => MenR K0 w0 W ts ps bs (L ++ R) t (.pointer q) v1 v5 v29 wx) (fun _ _ i _ => 2 - (intOf i).toNat)
      case atStart => exact H1
      case round =>
        clear H1
        obtain ⟨i, K2, r2, sq2, q2, A2, c2, rfl, hi, rfl, rfl, hb, hC, hsl⟩ := hrel
        have hlen : t.cells.length + (scells sq2).length + r2.cells.length ≤ 536870912 := by
          have h1 := congrArg List.length hC
          simp only [List.length_append] at h1
          have := HS.out
          omega
        have HLN := Lib.hid hlen
        clear hlen
        by_cases hil : i < 2
        · have t2 : decide ((i : Int) < 2) = true := decide_eq_true (by omega)
          have i1 : (i : Int) < 2 := by omega
          cases r2 with
          | nil =>
            have hq := (hb.env.t _ List.mem_cons_self).rep.none
            subst hq
            have HC := Lib.hid hC
            have HB := Lib.hid hb
            clear hC hb
            go_wp2
            go_roundw
            case rel => exact MenR.mk (i + 1) .nil sq2 rfl hil HB.out.sub HB.out.env HB.out.row HB.out.own HB.out.ok HB.out.bel HB.out.box HB.out.ws HC.out (by omega)
            case measure => simp [intOf]; omega
          | node tl rs hid tr plus =>
            obtain ⟨ad, had⟩ := (hb.env.t _ List.mem_cons_self).rep.some
            subst had
            have hpop := popFirst_env hb.env.rebase List.mem_cons_self (by have := HLN.out; omega)
            have HP := Lib.hid hpop
            have HC := Lib.hid hC
            have HB := Lib.hid hb
            have hl32 : Hid ((sq2.length + 1) * 32 ≤ 140737488355328) := Lib.hid (by omega)
            clear hC hb hpop
            go_wp2_with (first
              | (go_at_call 104; refine HP.out.mono ?_; rintro e w1 ⟨t', v', p, rfl, hE1, hc1⟩; have HC1 := Lib.hid hc1; clear hc1; have HAP := Lib.hid (menR_app HB.out hE1))
              | ((with_reducible refine gate_builtin (b := .append) (xs := #[.tmp 39, .tmp 41]) rfl ?_); at_builtin; refine Kd.N_append k113 (w0 := W) (W := w1.alloc p.obj) W.heap.size rfl (.tmp 39) (.tmp 41) 101 113 (.agg #[.slice none 0 0, .int .i64 0]) 32 rfl Tryd.underlying101 info113 rfl (by decide) (by decide) _ sq2 p.s [.slice p.A p.rs.length p.c, .int .i64 p.hid] (fun _ => True) K2 rfl (by rw [World.size_alloc]; rfl) HAP.out.1 HAP.out.2.1 (fun _ _ => trivial) HAP.out.2.2.1 HAP.out.2.2.2 HAP.out.2.2.2.size hl32.out ?_; intro v8 w8 hN8 hB8 hg8 hat8))
            have HF := Lib.hid (menR_step (x := (i : Int) + 1) HB.out HC.out hsl hil (hE1.onto HB.out.env) HC1.out hN8 hB8 hg8 hat8 rfl)
            clear hN8 hB8 hg8 hat8 HAP hE1
            go_wp2
            go_roundw
            case rel => exact HF.out
            case measure => simp [intOf]; omega
        · have t2 : decide ((i : Int) < 2) = false := decide_eq_false (by omega)
          have hrd := Kd.N_reads' hb.row
          have hev := evened_pcs (sq := sq2) (by have := HLN.out; omega) hb.ok hrd.2.2 hrd.2.1
          have HEV := Lib.hid hev
          have HB := Lib.hid hb
          have HC := Lib.hid hC
          clear hev hrd hb hC hi hil
          go_wp2_with (go_at_call 105; refine HEV.out.mono ?_; rintro e w7 ⟨A7, c7, qs, rfl, hpc, hql, hP, hK, hb7⟩)
          have hE7 : Env K2 w0 w7 ((t, .pointer q) :: (r2, .pointer q2) :: ts) (qs ++ ps) bs := ((HB.out.env.below hb7).addPs (fun p hp => (hK p hp).mono (fun k hk => HB.out.env.up k hk))).sub (fun y hy => by
            rcases List.mem_cons.1 hy with rfl | hy
            · exact m1
            · rcases List.mem_cons.1 hy with rfl | hy
              · exact m0
              · exact u2 hy) (fun y hy => hy) (fun y hy => hy)
          have H2 : MenJ K2 w0 w7 ts ps bs t.cells qs r2 (.pointer q2) (.pointer q) (.int .i64 0) w7 := MenJ.mk 0 t rfl (Nat.zero_le _) hE7 (by simp [pcells]) (Below.refl _ _)
          have hlq : t.cells.length + (pcells qs).length + r2.cells.length ≤ 536870912 := by rw [hpc]; exact HLN.out
          have hqb : (qs.length : Int) ≤ 536870912 := by have := HLN.out; omega
          have HPC := Lib.hid hpc
          have HLQ := Lib.hid hlq
          clear hpc hql hK hlq hE7 HEV
          go_loopw [0, 47] (fun v0 v47 wx => MenJ K2 w0 w7 ts ps bs t.cells qs r2 (.pointer q2) v0 v47 wx) (fun _ i _ => qs.length - (intOf i).toNat)
          case atStart => exact H2
          case round =>
            clear H2
            obtain ⟨k, l3, q3, rfl, hk, rfl, hE, hc3, hBx⟩ := hrel
            by_cases hkl : k < qs.length
            · obtain ⟨g, o, hA7, x0, x1⟩ := (hP.below hBx) k hkl
              have hpt := pcells_take hkl
              have hmem : qs[k] ∈ qs := List.getElem_mem hkl
              have htl : (pcells (qs.take (k + 1))).length ≤ (pcells qs).length := by
                have := congrArg (fun x => (pcells x).length) (List.take_append_drop (k + 1) qs)
                simp only [pcells, List.flatMap_append, List.length_append] at this
                simp only [pcells]
                omega
              obtain ⟨pq, hpq⟩ : ∃ pq, pq = qs[k] := ⟨_, rfl⟩
              rw [← hpq] at x0 x1 hpt hmem
              have hs3 : l3.cells.length + pq.rs.length + (Tree.nil).cells.length ≤ 1073741824 := by
                have h1 : pq.cells.length = pq.rs.length := by simp [Pc.cells]
                rw [hpt, List.length_append, h1] at htl
                rw [hc3, List.length_append, show (Tree.nil).cells.length = 0 from rfl]
                have := HLQ.out
                omega
              have hjo := join_env ((hE.rebase.nilT).idle pq.obj) (l := l3) (r := .nil) (p := pq) m1 m0 (List.mem_append_left _ hmem) hs3
              have kb : (k : Int) ≤ 536870912 := by omega
              have kl : (k : Int) < (qs.length : Int) := by omega
              have HJ := Lib.hid hjo
              have HPT := Lib.hid hpt
              have HC3 := Lib.hid hc3
              have HE := Lib.hid hE
              subst hA7
              clear hjo hpt hmem htl hpq hs3 hc3 hE
              go_wp2_with (go_at_call 102; refine HJ.out.mono ?_; rintro e w8 ⟨t8, v8, rfl, hE8, hc8, _, _⟩)
              have hF : MenJ K2 w0 w7 ts ps bs t.cells qs r2 (.pointer q2) v8 (.int .i64 ((k : Int) + 1)) w8 := MenJ.mk (k + 1) t8 rfl hkl ((hE8.onto HE.out).sub (sub_keep fun y hy => u2 hy) (fun y hy => hy) (fun y hy => hy)) (by rw [hc8, HC3.out, HPT.out]; simp [Tree.cells, List.append_assoc]) (hBx.trans (hE8.bel.mono hBx.size))
              clear hE8 hc8
              go_wp2
              go_roundw
              case rel => exact hF
              case measure => simp [intOf]; omega
            · have hkq : k = qs.length := by omega
              subst hkq
              rw [List.take_length] at hc3
              clear hk hkl
              cases r2 with
              | nil =>
                have hq := (hE.t _ m1).rep.none
                subst hq
                have hfin : l3.cells = L ++ R := by rw [hc3, HPC.out, ← HC.out]; simp [Tree.cells]
                have HF := Lib.hid hfin
                clear hc3 hfin
                go_wp2
                go_ret
                exact ⟨l3, q3, rfl, (hE.mono HB.out.sub (fun k hk => HB.out.sub k (hE.up k hk))).sub (sub_keep fun y hy => u1 hy) (fun y hy => List.mem_append_right _ hy) (fun y hy => hy), HF.out⟩
              | node tl rs hid tr plus =>
                obtain ⟨ad, had⟩ := (hE.t _ m1).rep.some
                subst had
                have hl3 : l3.cells.length + (Tree.node tl rs hid tr plus).cells.length ≤ 536870912 := by rw [hc3, List.length_append]; exact HLQ.out
                have hpop := popFirst_env hE.rebase m1 (by omega)
                have HP := Lib.hid hpop
                have HC3 := Lib.hid hc3
                have HE := Lib.hid hE
                have HL3 := Lib.hid hl3
                clear hpop hc3 hE hl3
                go_wp2_with (first
                  | (go_at_call 104; refine HP.out.mono ?_; rintro e w1 ⟨t', v', p, rfl, hE1, hc1⟩; have HC1 := Lib.hid hc1; clear hc1)
                  | (go_at_call 102; refine (join_env (hE1.idle p.obj) (l := l3) (r := t') (p := p) (u1 m0) m0 m0 ?_).mono ?_; have h1 := congrArg List.length HC1.out; rw [List.length_append] at h1; have h2 : p.cells.length = p.rs.length := (by simp [Pc.cells]); have := HL3.out; omega; rintro e w8 ⟨t8, v8, rfl, hE8, hc8, _, _⟩))
                go_ret
                obtain ⟨q8, rfl⟩ := (hE8.t _ m0).rep.ptr
                have hEf := hE8.onto HE.out
                exact ⟨t8, q8, rfl, (hEf.mono HB.out.sub (fun k hk => HB.out.sub k (hEf.up k hk))).sub (sub_keep fun y hy => u3 hy) (fun y hy => u1 (List.mem_append_right _ hy)) (fun y hy => hy), by rw [hc8, HC3.out, List.append_assoc, HC1.out, HPC.out, HC.out]⟩
end Go.Proofs.YteeigokkafcaaaaDoorRope
end
section
namespace Go.Proofs.YteeigokkafcaaaaDoorRope
open Go.RowKit Go.Proofs.YteeigokkafcaaaaDoorW.PrintWords Go.Proofs.YteeigokkafcaaaaDoorW.PrintMore Go.Proofs.YteeigokkafcaaaaDoor.Pr
set_option linter.unusedSimpArgs false
set_option linter.unusedVariables false
attribute [local go_sem ↓] Go.wp_at_zero Go.wp_at_succ
theorem run_cell {W : World} {A : Option Addr} {l : List (List Int × Int)} (h : Kd.C k58 W A l.length (sRuns l)) {k : Nat} (hk : k < l.length) : ∃ ad, A = some ad ∧ W.cell? (ad.add (k * 2)) = some (.string (txt l[k].1)) ∧ W.cell? ⟨(ad.add (k * 2)).block, (ad.add (k * 2)).off + 1, none⟩ = some (.int .i64 l[k].2) := by
  have hl : (sRuns l).length = l.length := by simp [sRuns]
  obtain ⟨ad, e, h1, h2⟩ := at_T58 h (k : Int) (by omega) (by omega)
  have hx : rd_T58 (sRuns l) (k : Int) = ⟨txt l[k].1, l[k].2⟩ := by simp [rd_T58, sRuns, hk]
  rw [hx] at h1 h2
  exact ⟨ad, e, by simpa using h1, by simpa using h2⟩
theorem txt_ne {a : List Int} (h : a ≠ []) : (txt a).toList.isEmpty = false := by
  rw [ByteArray.toList_eq, txt_list]
  cases a with
  | nil => exact absurd rfl h
  | cons r a =>
    rw [utf_cons]
    have := wid_pos r
    unfold wid at this
    generalize Lib.encodeRune r = x at this
    cases x with
    | nil => simp at this
    | cons y x => rfl
theorem rcells_append (a b : List (List Int × Int)) : rcells (a ++ b) = rcells a ++ rcells b := List.flatMap_append
theorem rcells_one (x : List Int × Int) : rcells [x] = x.1.map (fun c => (c, x.2)) := by simp [rcells]
theorem rcells_take {l : List (List Int × Int)} {k : Nat} (hk : k < l.length) : (rcells (l.take (k + 1))).length = (rcells (l.take k)).length + l[k].1.length := by
  rw [List.take_succ_eq_append_getElem hk, rcells_append, List.length_append, rcells_one, List.length_map]
theorem counter_yes {h : Int} (h0 : 0 ≤ h) (h1 : h ≤ 1048576) : rope_counter.f h = some 0 := by
  unfold rope_counter.f
  rw [if_neg (by omega), if_neg (by omega)]
theorem rcells_le {l : List (List Int × Int)} (k : Nat) : (rcells (l.take k)).length ≤ (rcells l).length := by
  have := congrArg (fun x => (rcells x).length) (List.take_append_drop k l)
  simp only [rcells_append, List.length_append] at this
  omega
theorem grown_cell {W W1 : World} {row : Option Nat} {b o : Nat} {x : Value} (hg : W.grownBy W1 row) (hne : some b ≠ row) (h : W.cell? ⟨b, o, none⟩ = some x) : W1.cell? ⟨b, o, none⟩ = some x := by
  have hl := World.block_lt_of_cell? W _ h
  rw [World.cell?_of_block (w := W) (w' := W1) (hg.block b hl hne)]
  exact h
theorem from_okp {w W5 w6 : World} {v : Value} {xs : List S113} (hN : Kd.N k113 113 W5 w.heap.size (fun b => w.heap.size ≤ b) v xs) (hB : Below w.heap.size w W5) (hb6 : Below W5.heap.size W5 w6) : ∀ k, (W5.heap.size < k ∨ w6.heap.size ≤ k) → w.heap.size ≤ k ∧ some k ≠ v.ownBlock := by
  intro k hk
  have h1 := hB.size
  have h2 := hb6.size
  have h3 : W5.heap.size ≤ k := by omega
  exact ⟨by omega, fun e => by have := Kd.N_lt hN k e.symm; omega⟩
set_option maxRecDepth 100000 in
set_option maxHeartbeats 8000000 in
theorem from_yes {l : List (List Int × Int)} (hg : GoodRuns l) (hlen : (rcells l).length ≤ 1048576) (hll : l.length ≤ 1048576) {w : World} (hw : BarsAt w) {A : Option Addr} {c : Nat} (hA : Kd.C k58 w A l.length (sRuns l)) (hc : l.length ≤ c) :
    Calls Tryd.prog 18 #[.slice A l.length c] w fun e w' => ∃ b t, e = .returned (.tuple #[.pointer (some ⟨b, 0, none⟩), .int .i64 0]) ∧ w.heap.size ≤ b ∧ RopeAt (fun k => w.heap.size ≤ k ∧ k ≠ b) w' b t ∧ t.cells = rcells l ∧ Below w.heap.size w w' := by
  have HLEN := Lib.hid hlen
  clear hlen
  go_enter Tryd.func18, Tryd.ntmps18
  go_wp2
  go_loopw [4, 15] (fun t i wr => ∃ k : Nat, k ≤ l.length ∧ i = .int .i64 (k : Int) ∧ t = .int .i64 ((rcells (l.take k)).length : Int) ∧ Below w.heap.size w wr) (fun _ i _ => l.length - (intOf i).toNat)
  case atStart => exact ⟨0, Nat.zero_le _, rfl, rfl, Below.refl _ _⟩
  case round =>
    obtain ⟨k, hkl, rfl, rfl, hB⟩ := hrel
    by_cases hlt : k < l.length
    · have hle := rcells_le (l := l) k
      have hle1 := rcells_le (l := l) (k + 1)
      have htk := rcells_take hlt
      obtain ⟨h1, h2, h3, h4⟩ := hg.one _ (List.getElem_mem hlt)
      obtain ⟨ad, hAd, x0, x1⟩ := run_cell hA hlt
      subst hAd
      have y0 := pw_cell_below hB x0
      have y1 := pw_cell_below hB x1
      have e0 := txt_ne h1
      have kb : (k : Int) ≤ 1048576 := by omega
      have hb1 : ((rcells (l.take k)).length : Int) + (l[k].1.length : Int) ≤ 1048576 := by have := HLEN.out; omega
      have hb2 : (l[k].1.length : Int) ≤ 1048576 := by have := HLEN.out; omega
      have hn : l[k].1.length ≤ 1073741824 := by omega
      have hwr := hw.below hB
      have HTK := Lib.hid htk
      clear hle hle1 htk x0 x1
      by_cases hk0 : k = 0
      · have d0 : decide (0 < k) = false := decide_eq_false (by omega)
        clear hk0
        go_wp2
        go_quiet (fail)
        go_wp2_with (first
          | (go_at_call 53; refine (check_yes h2 hn (hwr.below (pw_below_drewN (below_alloc (Below.refl _ _) _) _))).mono ?_; rintro e w2 ⟨rfl, hb3⟩; have z0 := bcell hb3 (b := wr.heap.size) (o := 1) (x := .int .i64 l[k].2) (by simp))
          | (go_at_call 54; refine (rope_counter.calls _ _ _ (counter_yes h3 h4)).mono ?_; rintro e w3 ⟨rfl, ⟨nd, rfl⟩⟩))
        have hB2 : Below w.heap.size w (w2.drewN nd) := pw_below_drewN (hB.trans ((pw_below_drewN (below_alloc (Below.refl _ wr) _) _).trans (hb3.mono (by simp)) |>.mono hB.size)) nd
        go_roundw
        case rel => exact ⟨k + 1, hlt, by go_num, by rw [HTK.out]; go_num, hB2⟩
        case measure => simp [intOf]; omega
      · have hkp : 0 < k := by omega
        have hl1 : k - 1 < l.length := by omega
        obtain ⟨ad', hAd', xx, x3⟩ := run_cell hA hl1
        clear xx
        injection hAd' with hAd'
        subst hAd'
        have y3 := pw_cell_below hB x3
        have hne : (l[k].2 == l[k - 1].2) = false := by
          have := hg.two (k - 1) (by omega)
          simp only [show k - 1 + 1 = k by omega] at this
          exact beq_eq_false_iff_ne.mpr this
        obtain ⟨q, hq⟩ : ∃ q, q = l[k - 1].2 := ⟨_, rfl⟩
        rw [← hq] at y3 hne
        clear hq
        have d0 : decide (0 < k) = true := decide_eq_true hkp
        obtain ⟨j, hj⟩ : ∃ j : Int, (k : Int) - 1 = j := ⟨_, rfl⟩
        have wk : IntKind.i64.wrap ((k : Int) - 1) = j := ((IntWalk.i64_left _).trans (w64 (by omega) (by omega))).trans hj
        have kn : k - 1 = j.toNat := by omega
        rw [kn] at y3
        have p0 : (0 ≤ j) = True := eq_true (by omega)
        have p1 : (j < (l.length : Int)) = True := eq_true (by omega)
        clear hk0 x3 hkp kn hj
        clear hl1
        go_wp2
        obtain ⟨W5, hW5⟩ : ∃ W5, wr.alloc (.cells #[.string (txt l[k].1), .int .i64 l[k].2] 58) = W5 := ⟨_, rfl⟩
        have hb5 : Below wr.heap.size wr W5 := by rw [← hW5]; exact below_alloc (Below.refl _ wr) _
        have q0 : W5.cell? ⟨wr.heap.size, 0, none⟩ = some (.string (txt l[k].1)) := by rw [← hW5]; simp
        have q1 : W5.cell? ⟨wr.heap.size, 1, none⟩ = some (.int .i64 l[k].2) := by rw [← hW5]; simp
        have y5 := pw_cell_below hb5 y3
        rw [hW5]
        clear hW5 y3 y0 y1
        go_quiet (fail)
        go_wp2_with (first
          | (go_at_call 53; refine (check_yes h2 hn (hwr.below (pw_below_drewN hb5 _))).mono ?_; rintro e w2 ⟨rfl, hb3⟩; have z0 := pw_cell_below hb3 (show (W5.drewN nq).cell? _ = _ from q1))
          | (go_at_call 54; refine (rope_counter.calls _ _ _ (counter_yes h3 h4)).mono ?_; rintro e w3 ⟨rfl, ⟨nd, rfl⟩⟩))
        have hB2 : Below w.heap.size w (w2.drewN nd) := pw_below_drewN (hB.trans ((pw_below_drewN hb5 _).trans (hb3.mono hb5.size) |>.mono hB.size)) nd
        go_roundw
        case rel => exact ⟨k + 1, hlt, by go_num, by rw [HTK.out]; go_num, hB2⟩
        case measure => simp [intOf]; omega
    · have hkl2 : k = l.length := by omega
      subst hkl2
      rw [List.take_length]
      clear hlt hkl
      have hb4 : ((rcells l).length : Int) ≤ 1048576 := by have := HLEN.out; omega
      have d4 : decide ((1048576 : Int) < ((rcells l).length : Int)) = false := decide_eq_false (by omega)
      go_wp2
      clear d4
      have hsmall : ∀ x ∈ l, x.1.length ≤ 1073741824 := by
        intro x hx
        obtain ⟨k, hk, rfl⟩ := List.getElem_of_mem hx
        have h1 := rcells_take hk
        have h2 := rcells_le (l := l) (k + 1)
        have := HLEN.out
        omega
      go_loopw [10, 62] (fun v i wx => ∃ k : Nat, k ≤ l.length ∧ i = .int .i64 (k : Int) ∧ Kd.N k113 113 wx w.heap.size (fun b => w.heap.size ≤ b) v (cutAll (l.take k)) ∧ Below w.heap.size w wx) (fun _ i _ => l.length - (intOf i).toNat)
      case atStart => exact ⟨0, Nat.zero_le _, rfl, Kd.N_nil _ _ _ _ _, hB⟩
      case round =>
        clear hB
        obtain ⟨k, hkl, rfl, hN, hB⟩ := hrel
        by_cases hlt : k < l.length
        · obtain ⟨h1, h2, h3, h4⟩ := hg.one _ (List.getElem_mem hlt)
          obtain ⟨ad, hAd, x0, x1⟩ := run_cell hA hlt
          subst hAd
          have y0 := pw_cell_below hB x0
          have y1 := pw_cell_below hB x1
          have hn : l[k].1.length ≤ 1073741824 := hsmall _ (List.getElem_mem hlt)
          have kb : (k : Int) ≤ 1048576 := by omega
          have hct := cutAll_take hlt
          have hcl := cutAll_len (l.take k) (fun x hx => hsmall x (List.mem_of_mem_take hx))
          have hcl2 := rcells_le (l := l) k
          have hcs := (cutS_law l[k].1 l[k].2 hn).2.2
          have HCT := Lib.hid hct
          have hbig : ((cutAll (l.take k)).length + (cutS l[k].1 l[k].2).length) * 32 ≤ 140737488355328 := by have := HLEN.out; omega
          have HBIG := Lib.hid hbig
          clear hct hcl hcl2 hcs hbig x0 x1 hb4
          obtain ⟨rs, hrs⟩ : ∃ rs, rs = l[k].1 := ⟨_, rfl⟩
          obtain ⟨hd, hhd⟩ : ∃ hd, hd = l[k].2 := ⟨_, rfl⟩
          rw [← hrs] at y0 h2 hn HBIG HCT
          rw [← hhd] at y1 HBIG HCT
          clear hrs hhd h1 h3 h4
          go_wp2
          obtain ⟨W5, hW5⟩ : ∃ W5, wr.alloc (.cells #[.string (txt rs), .int .i64 hd] 58) = W5 := ⟨_, rfl⟩
          have hb5 : Below wr.heap.size wr W5 := by rw [← hW5]; exact below_alloc (Below.refl _ wr) _
          have q0 : W5.drew.cell? ⟨wr.heap.size, 0, none⟩ = some (.string (txt rs)) := by rw [← hW5]; simp
          have q1 : W5.drew.cell? ⟨wr.heap.size, 1, none⟩ = some (.int .i64 hd) := by rw [← hW5]; simp
          have hN5 := Kd.N_drew (Kd.N_below hN hb5)
          have hgne := Kd.N_ne hN5 (t := 58) (g := wr.heap.size) (cells := #[.string (txt rs), .int .i64 hd]) (by rw [← hW5]; exact heap_new wr _) (by decide)
          have hB5 := below_drew (hB.trans (hb5.mono hB.size))
          rw [hW5]
          obtain ⟨g, hgg⟩ : ∃ g, g = wr.heap.size := ⟨_, rfl⟩
          rw [← hgg] at q0 q1 hgne ⊢
          clear hW5 y0 y1 hN hB hb5 hgg
          go_region_held3 (fun W' => W'.cell? ⟨g, 0, none⟩ = some (.string (txt rs)) ∧ W'.cell? ⟨g, 1, none⟩ = some (.int .i64 hd))
            (first | with_reducible exact ⟨q0, q1⟩ | with_reducible exact ⟨r0, r1⟩ | with_reducible exact ⟨s0, s1⟩ | with_reducible exact ⟨t0, t1⟩ | fail)
            (first
              | (go_at_call 56; refine (runesOf_sl rs h2.rns hn _).mono ?_; rintro e w6 ⟨A6, c6, rfl, hV6, hb6⟩; have r0 := pw_cell_below hb6 q0; have r1 := pw_cell_below hb6 q1)
              | (go_at_call 55; refine (cutUp_sl hV6 hn).mono ?_; rintro e w7 ⟨A7, c7, rfl, hF7, hc7, hb7⟩; have s0 := pw_cell_below hb7 r0; have s1 := pw_cell_below hb7 r1)
              | ((refine Kd.N_append_rows_step k113 (w0 := w) w.heap.size (by rfl) (.tmp 66) (.tmp 72) 101 113 (.agg #[.slice none 0 0, .int .i64 0]) 32 rfl Tryd.underlying101 info113 rfl (by decide) (by decide) _ _ _ A7 _ c7 (fun b => w.heap.size ≤ b) _ rfl rfl (Kd.N_below hN5 (hb6.trans (hb7.mono hb6.size))) hF7 (from_okp hN5 hB5 hb6) (fun k hk => Nat.le_trans (hB5.trans ((hb6.trans (hb7.mono hb6.size)).mono hB5.size)).size hk) (hB5.trans ((hb6.trans (hb7.mono hb6.size)).mono hB5.size)) (hB5.trans ((hb6.trans (hb7.mono hb6.size)).mono hB5.size)).size HBIG.out ?_; intro v8 w8 hN8 hB8 hg8 hat8; have t0 := grown_cell hg8 hgne s0; have t1 := grown_cell hg8 hgne s1))
              | fail)
          have hN9 : Kd.N k113 113 w8 w.heap.size (fun b => w.heap.size ≤ b) v8 (cutAll (l.take (k + 1))) := by rw [HCT.out]; exact hN8
          go_wp2
          go_roundw
          case rel => exact ⟨k + 1, hlt, by go_num, hN9, hB8⟩
          case measure => simp [intOf]; omega
        · have hkl2 : k = l.length := by omega
          subst hkl2
          rw [List.take_length] at hN
          clear hlt hkl hb4
          have hok : ∀ x ∈ cutAll l, OkPc x := by
            intro x hx
            obtain ⟨y, hy, hx⟩ := List.mem_flatMap.1 hx
            obtain ⟨h1, h2, h3, h4⟩ := hg.one y hy
            obtain ⟨_, h5, _⟩ := cutS_law y.1 y.2 (hsmall y hy)
            obtain ⟨h6, _, h7⟩ := h5 x hx
            exact ⟨h6, by omega, by omega⟩
          obtain ⟨A7, c7, qs, hv, hc7, hqs, hP, hK⟩ := pcs_of_N hN hok
          have hE : Env (fun k => w.heap.size ≤ k) w wr [] qs [] := ⟨by simp, hK, by simp, hB, fun k hk => Nat.le_trans hB.size hk⟩
          have hcs : pcells qs = rcells l := by rw [pcells_scells, hqs, cutAll_cells l hsmall]
          have hql : qs.length ≤ (rcells l).length := by
            have := cutAll_len l hsmall
            rw [← hqs, List.length_map] at this
            exact this
          have hs1 : (pcells qs).length ≤ 1073741824 := by rw [hcs]; have := HLEN.out; omega
          have hs2 : qs.length ≤ 1073741824 := by have := HLEN.out; omega
          have HCS := Lib.hid hcs
          subst hv
          clear hcs hqs hql hN hok hK hB
          go_wp2_with (go_at_call 57; refine (build_env hE (fun q hq => hq) hP hc7 hs1 hs2).mono ?_; rintro e w3 ⟨t, v, rfl, hE3, hct, _, _⟩; obtain ⟨p, rfl⟩ := (hE3.t _ List.mem_cons_self).rep.ptr)
          go_ret2
          refine ⟨w3.heap.size, t, rfl, hE3.bel.size, ⟨⟨_, heap_new w3 _, ?_⟩, ?_⟩, hct.trans HCS.out, below_alloc hE3.bel _⟩
          · exact (((hE3.t _ List.mem_cons_self).bound).below (below_alloc (Below.refl _ w3) _)).mono (fun k hk => ⟨hk.1, by have := hk.2; omega⟩)
          · simp
end Go.Proofs.YteeigokkafcaaaaDoorRope
end
section
namespace Go.Proofs.YteeigokkafcaaaaDoorRope
open Go.RowKit Go.Proofs.YteeigokkafcaaaaDoorW.PrintWords Go.Proofs.YteeigokkafcaaaaDoorW.PrintMore Go.Proofs.YteeigokkafcaaaaDoor.Pr
set_option linter.unusedSimpArgs false
set_option linter.unusedVariables false
attribute [local go_sem] run_field2 run_field0
theorem cutUp_pcs {P0 : Nat → Prop} {A : Option Addr} {c : Nat} {l : List Int} {h : Int} {w : World} (hs : Kd.V (Kd.int .i32) 21 w w.heap.size P0 (.slice A l.length c) l) (hL : l.length ≤ 1073741824) (hh : 0 ≤ h ∧ h ≤ 1048577) :
    Calls Tryd.prog 55 #[.slice A l.length c, .int .i64 h] w fun e w' => ∃ A' c' qs, e = .returned (.slice A' qs.length c') ∧ qs.length ≤ c' ∧ pcells qs = l.map (fun c => (c, h)) ∧ qs.length ≤ l.length ∧ PcsAt w' A' qs ∧ (∀ q ∈ qs, PieceIn (fun k => P0 k ∨ w.heap.size ≤ k) w' q) ∧ Below w.heap.size w w' := by
  obtain ⟨k, hk⟩ := cutUp_is l h hL
  obtain ⟨h1, h2, h3⟩ := cutS_law l h hL
  refine (rope_cutUp.calls k P0 A c l h (cutS l h) w hs hk).mono ?_
  rintro e w' ⟨v, he, hN, hb⟩
  obtain ⟨A', c', qs, rfl, hc, hqs, hP, hK⟩ := pcs_of_N hN (fun x hx => ⟨(h2 x hx).1, by rw [(h2 x hx).2.2]; exact hh.1, by rw [(h2 x hx).2.2]; exact hh.2⟩)
  refine ⟨A', c', qs, he, hc, by rw [pcells_scells, hqs, h1], ?_, hP, hK, hb⟩
  rw [← hqs, List.length_map] at h3
  exact h3
abbrev Kr (K : Nat → Prop) (n : Nat) : Nat → Prop := KU (fun k => K k ∧ k < n) n
theorem RopeAt.blk {K : Nat → Prop} {w : World} {b : Nat} {t : Tree} (h : RopeAt K w b t) : ∃ v, w.heap[b]? = some (.cells #[.pointer v] 108 (0, 0)) ∧ Env (Kr K w.heap.size) w w [(t, .pointer v)] [] [] ∧ ¬ Kr K w.heap.size b ∧ b < w.heap.size := by
  obtain ⟨v, hv, ht⟩ := h.h
  obtain ⟨p, rfl⟩ := ht.rep.ptr
  have hlt := new_lt hv
  refine ⟨p, hv, ⟨fun x hx => ?_, by simp, by simp, Below.refl _ _, fun k hk => .inr hk⟩, fun hk => hk.elim (fun h1 => h.no h1.1) (fun h1 => by omega), hlt⟩
  have : x = (t, .pointer p) := by simpa using hx
  rw [this]
  exact ht.bound.mono (fun k hk => .inl hk)
theorem grown_set {W : World} {b : Nat} {u : Value} : W.grownBy (W.setCell ⟨b, 0, none⟩ u) (some b) :=
  ⟨rfl, rfl, rfl, by simp [World.setCell], fun k hk hne => Below.heap_setCell W ⟨b, 0, none⟩ u k (fun e => hne (by rw [show k = b from e]))⟩
theorem grown_after {w W W' : World} {b : Nat} (hb : Below w.heap.size w W) (hg : W.grownBy W' (some b)) : w.grownBy W' (some b) :=
  ⟨hg.os.trans hb.os, hg.tape.trans hb.tape, hg.output.trans hb.output, Nat.le_trans hb.size hg.size, fun k hk hne => (hg.block k (Nat.lt_of_lt_of_le hk hb.size) hne).trans (hb.block k hk)⟩
theorem RopeAt.put {K : Nat → Prop} {w W : World} {b : Nat} {p0 p : Option Addr} {t : Tree} {ts : List (Tree × Value)} {ps : List Pc} {bs : List (Nat × Obj)} (hv : w.heap[b]? = some (.cells #[.pointer p0] 108 (0, 0))) (hn : ¬ K b) (hE : Env K w W ((t, .pointer p) :: ts) ps bs) : RopeAt K (W.setCell ⟨b, 0, none⟩ (.pointer p)) b t := by
  have hlt := new_lt hv
  have hW := (hE.bel.block b hlt).trans hv
  refine ⟨⟨.pointer p, ?_, ?_⟩, hn⟩
  · simp [World.setCell, Array.getElem?_modify, hW]
  · have ht := hE.t _ List.mem_cons_self
    exact ⟨ht.rep.move (fun k hk _ => Below.heap_setCell W ⟨b, 0, none⟩ _ k (fun e => hn (by rw [← show k = b from e]; exact hk))), ht.good⟩
theorem box_cell {w W : World} {b : Nat} {p0 : Option Addr} (hv : w.heap[b]? = some (.cells #[.pointer p0] 108 (0, 0))) (hb : Below w.heap.size w W) : W.cell? ⟨b, 0, none⟩ = some (.pointer p0) ∧ W.frozen? ⟨b, 0, none⟩ = false := by
  have hW := (hb.block b (new_lt hv)).trans hv
  exact ⟨by simp [World.cell?, hW], by simp [World.frozen?, hW]⟩
def insC (cs : List (Int × Int)) (at_ : Nat) (l : List Int) (h : Int) : List (Int × Int) := cs.take at_ ++ l.map (fun c => (c, h)) ++ cs.drop at_
theorem insC_len (cs : List (Int × Int)) (at_ : Nat) (l : List Int) (h : Int) : (insC cs at_ l h).length = cs.length + l.length := by
  simp [insC]
  omega
set_option maxRecDepth 100000 in
set_option maxHeartbeats 16000000 in
theorem insert_yes {K : Nat → Prop} {w : World} {b : Nat} {t : Tree} (h : RopeAt K w b t) (hw : BarsAt w) {at_ : Nat} {l : List Int} {hd : Int} (ha : at_ ≤ t.cells.length) (hl : Lets l) (hne : l ≠ []) (hh : 0 ≤ hd ∧ hd ≤ 1048576) (hsz : t.cells.length + l.length ≤ 1048576) :
    Calls Tryd.prog 33 #[.pointer (some ⟨b, 0, none⟩), .int .i64 (at_ : Int), .string (txt l), .int .i64 hd] w fun e w' => ∃ t', e = .returned (.int .i64 0) ∧ RopeAt (Kr K w.heap.size) w' b t' ∧ t'.cells = insC t.cells at_ l hd ∧ w.grownBy w' (some b) := by
  obtain ⟨p0, hv, hE, hn, hlt⟩ := h.blk
  have hln : 0 < l.length := List.length_pos_iff.2 hne
  have d0 : decide ((at_ : Int) < 0) = false := decide_eq_false (by omega)
  have d1 : decide (t.cells.length < at_) = false := decide_eq_false (by omega)
  have d2 : decide ((1048576 : Int) < (t.cells.length : Int) + (l.length : Int)) = false := decide_eq_false (by omega)
  have d3 : (l.length == 0) = false := beq_eq_false_iff_ne.mpr (by omega)
  have d4 : ((l.length : Int) == 0) = false := beq_eq_false_iff_ne.mpr (by omega)
  have b1 : (t.cells.length : Int) ≤ 1048576 := by omega
  have b2 : (l.length : Int) ≤ 1048576 := by omega
  have hc := counter_yes hh.1 hh.2
  have HC := Lib.hid hc
  have HH := Lib.hid hh
  have HSZ := Lib.hid hsz
  have HA := Lib.hid ha
  have HV := Lib.hid hv
  have HLT := Lib.hid hlt
  clear hc hh hsz ha hln hne
  have tok : True := trivial
  have tok2 : True := trivial
  have hc0 := (box_cell HV.out (Below.refl _ w)).1
  go_enter Tryd.func33, Tryd.ntmps33
  go_wp2_with (first
    | (go_at_call 19; clear tok; refine (total_calls h).mono ?_; rintro e w1 ⟨rfl, hb1⟩)
    | (go_at_call 53; refine (check_yes hl (by have := HSZ.out; omega) (hw.below hb1)).mono ?_; rintro e w2 ⟨rfl, hb2⟩; have hb12 := hb1.trans (hb2.mono hb1.size))
    | (go_at_call 54; refine (rope_counter.calls _ _ _ HC.out).mono ?_; rintro e w3 ⟨rfl, ⟨nd, rfl⟩⟩; have hb13 := pw_below_drewN hb12 nd)
    | (go_at_call 19; refine (total_calls (h.below hb13)).mono ?_; rintro e w4 ⟨rfl, hb4⟩; have hb14 := hb13.trans (hb4.mono hb13.size); have hE4 := hE.below hb14; have hc4 := (box_cell HV.out hb14).1)
    | (go_at_call 72; refine (split_env hE4 List.mem_cons_self HA.out (by have := HSZ.out; omega)).mono ?_; rintro e w5 ⟨ta, tb, va, vb, rfl, hE5, hca, hcb⟩)
    | (go_at_call 56; refine (runesOf_sl l hl.rns (by have := HSZ.out; omega) w5).mono ?_; rintro e w6 ⟨A6, c6, rfl, hV6, hb6⟩)
    | (go_at_call 55; refine (cutUp_pcs hV6 (by have := HSZ.out; omega) ⟨HH.out.1, by have := HH.out.2; omega⟩).mono ?_; rintro e w7 ⟨A7, c7, qs, rfl, hqc, hqp, hql, hP7, hK7, hb7⟩; have hE7 := ((hE5.below hb6).below hb7).addPs (fun q hq => (hK7 q hq).mono (fun k hk => .inr (by have := hE5.bel.size; have := hb6.size; omega))))
    | (go_at_call 57; refine (build_env hE7 (qs := qs) (fun q hq => List.mem_append_left _ hq) hP7 hqc (by rw [hqp, List.length_map]; have := HSZ.out; omega) (by have := HSZ.out; omega)).mono ?_; rintro e w8 ⟨t8, v8, rfl, hE8, hc8, _, _⟩)
    | (go_at_call 73; clear tok2; refine (mend_env hE8 (l := ta) (r := t8) m1 m0 ?_).mono ?_; (rw [hc8, hqp, hca, List.length_map, List.length_take]; have := HSZ.out; have := HA.out; omega); rintro e w9 ⟨t9, p9, rfl, hE9, hc9⟩)
    | (go_at_call 73; refine (mend_env hE9 (l := t9) (r := tb) m0 m3 ?_).mono ?_; (rw [hc9, hc8, hqp, hca, hcb, List.length_append, List.length_map, List.length_take, List.length_drop]; have := HSZ.out; have := HA.out; omega); rintro e wa ⟨ta', pa, rfl, hEa, hca'⟩; have hya := box_cell HV.out hEa.bel; obtain ⟨hya1, hya2⟩ := hya; have hla := Nat.lt_of_lt_of_le HLT.out hEa.bel.size))
  go_ret
  exact ⟨ta', rfl, RopeAt.put HV.out hn hEa, by rw [hca', hc9, hc8, hqp, hca, hcb]; rfl, grown_after hEa.bel grown_set⟩
end Go.Proofs.YteeigokkafcaaaaDoorRope
end
section
namespace Go.Proofs.YteeigokkafcaaaaDoorRope
open Go.RowKit Go.Proofs.YteeigokkafcaaaaDoorW.PrintWords Go.Proofs.YteeigokkafcaaaaDoorW.PrintMore Go.Proofs.YteeigokkafcaaaaDoor.Pr
set_option linter.unusedSimpArgs false
set_option linter.unusedVariables false
def k97 : Kd (Int × Int) := Kd.iso (Kd.pair (Kd.int .i64) (Kd.int .i64)) (fun x : Int × Int => x)
theorem at_T97 {w : World} {A : Option Addr} {ps : List (Int × Int)} (h : Kd.C k97 w A ps.length ps) {k : Nat} (hk : k < ps.length) : ∃ ad, A = some ad ∧ w.cell? (ad.add (k * 2)) = some (.int .i64 ps[k].1) ∧ w.cell? ⟨(ad.add (k * 2)).block, (ad.add (k * 2)).off + 1, none⟩ = some (.int .i64 ps[k].2) := by
  obtain ⟨ad, c, e, hl, hK, hc⟩ := Kd.C_get h (0, 0) (k : Int) (by omega) (by omega)
  have hx : ps.getD (k : Int).toNat (0, 0) = ps[k] := by simp [hk]
  rw [hx] at hK
  obtain ⟨c0, c1, rfl, h0, h1⟩ := hK
  have h0' : c0 = [.int .i64 ps[k].1] := h0
  have h1' : c1 = [.int .i64 ps[k].2] := h1
  subst h0' h1'
  have hs : k97.sz = 2 := rfl
  refine ⟨ad, e, ?_, ?_⟩
  · have := hc 0 _ rfl
    rw [hs] at this
    simpa using this
  · have := hc 1 _ rfl
    rw [hs, Int.toNat_natCast, add_field _ _ _ (by decide)] at this
    exact this
theorem info58' : (Tryd.prog.info? 58).map (fun i => (i.zero, i.size, i.bytes)) = some (some (.agg #[.string ByteArray.empty, .int .i64 0]), 2, 24) := by kernel_rfl
theorem sRuns_snoc (o : List (List Int × Int)) (x : List Int × Int) : sRuns (o ++ [x]) = sRuns o ++ [⟨txt x.1, x.2⟩] := by simp [sRuns]
end Go.Proofs.YteeigokkafcaaaaDoorRope
end
section
namespace Go.Proofs.YteeigokkafcaaaaDoorRope
open Go.RowKit Go.Proofs.YteeigokkafcaaaaDoorW.PrintWords Go.Proofs.YteeigokkafcaaaaDoorW.PrintMore Go.Proofs.YteeigokkafcaaaaDoor.Pr
set_option linter.unusedSimpArgs false
set_option linter.unusedVariables false
theorem vis_cons (c : Int × Int) (cs : List (Int × Int)) : vis (c :: cs) = (if c.2 = 0 then 1 else 0) + vis cs := by
  unfold vis
  by_cases h : c.2 = 0
  · rw [List.filter_cons_of_pos (by simpa using h), if_pos h, List.length_cons]; omega
  · rw [List.filter_cons_of_neg (by simpa using h), if_neg h]; omega
theorem vis_nth0 : ∀ (cs : List (Int × Int)) (p : Nat), p ≤ vis cs → vis (cs.take (nth0 cs p)) = p
  | [], p, h => by simp [vis] at h; simp [nth0, vis, h]
  | c :: cs, p, h => by
    rw [vis_cons] at h
    rw [nth0]
    by_cases c0 : c.2 = 0
    · rw [if_pos c0] at h ⊢
      by_cases hp : p = 0
      · rw [if_pos hp, hp]; rfl
      · rw [if_neg hp, Nat.add_comm 1, List.take_succ_cons, vis_cons, if_pos c0, vis_nth0 cs (p - 1) (by omega)]; omega
    · rw [if_neg c0] at h ⊢
      rw [Nat.add_comm 1, List.take_succ_cons, vis_cons, if_neg c0, vis_nth0 cs p (by omega)]; omega
end Go.Proofs.YteeigokkafcaaaaDoorRope
end
section
namespace Go.Proofs.YteeigokkafcaaaaDoorRope
open Go.RowKit Go.Proofs.YteeigokkafcaaaaDoorW.PrintWords Go.Proofs.YteeigokkafcaaaaDoorW.PrintMore Go.Proofs.YteeigokkafcaaaaDoor.Pr
set_option linter.unusedSimpArgs false
set_option linter.unusedVariables false
theorem run_field3 (W : World) (x0 x1 x2 x3 x4 x5 : Int) : (Instr.field 110 (.agg #[.int .i64 x0, .int .i64 x1, .int .i64 x2, .int .i64 x3, .int .i64 x4, .int .i64 x5]) 3).run Tryd.prog W = .ok (.int .i64 x3) W := by
  kernel_rfl
theorem run_field5 (W : World) (x0 x1 x2 x3 x4 x5 : Int) : (Instr.field 110 (.agg #[.int .i64 x0, .int .i64 x1, .int .i64 x2, .int .i64 x3, .int .i64 x4, .int .i64 x5]) 5).run Tryd.prog W = .ok (.int .i64 x5) W := by
  kernel_rfl
attribute [local go_sem] run_field2 run_field0 run_field3 run_field5
theorem cells2k {W : World} {g k : Nat} {a b : Value} (h : W.heap[g]? = some (.cells #[a, b] k (0, 0))) : W.cell? ⟨g, 0, none⟩ = some a ∧ W.cell? ⟨g, 1, none⟩ = some b := by
  simp [World.cell?, h]
end Go.Proofs.YteeigokkafcaaaaDoorRope
end
section
namespace Go.Proofs.YteeigokkafcaaaaDoorRope
open Go.RowKit Go.Proofs.YteeigokkafcaaaaDoorW.PrintWords Go.Proofs.YteeigokkafcaaaaDoorW.PrintMore Go.Proofs.YteeigokkafcaaaaDoor.Pr
set_option linter.unusedSimpArgs false
set_option linter.unusedVariables false
attribute [local go_sem] run_field2 run_field0
theorem froz2k {W : World} {g k : Nat} {a b : Value} (h : W.heap[g]? = some (.cells #[a, b] k (0, 0))) : W.frozen? ⟨g, 0, none⟩ = false ∧ W.frozen? ⟨g, 1, none⟩ = false := by
  simp [World.frozen?, h]
theorem set2k {W : World} {g k : Nat} {a b : Value} (X Y : Value) (h : W.heap[g]? = some (.cells #[a, b] k (0, 0))) : (W.setCell ⟨g, 0, none⟩ X).cell? ⟨g, 0, none⟩ = some X ∧ ((W.setCell ⟨g, 0, none⟩ X).setCell ⟨g, 1, none⟩ Y).cell? ⟨g, 1, none⟩ = some Y := by
  constructor <;> simp [World.cell?, World.setCell, Array.getElem?_modify, h]
def CelI (K : Nat → Prop) (w : World) (R : Int × Int) (g gk : Nat) (v1 v6 : Value) (wr : World) : Prop :=
  ∃ (t : Tree) (p : Nat) (q : Option Addr), v1 = .int .i64 (p : Int) ∧ v6 = .pointer q ∧ Env K w wr [(t, v6)] [] [(g, .cells #[.int .i32 0, .int .i64 0] 36)] ∧ t.cells[p]? = some R ∧ t.size ≤ gk ∧ t.cells.length ≤ 1048576
theorem CelI.mk {K : Nat → Prop} {w wr : World} {R : Int × Int} {g gk : Nat} {v6 : Value} {x1 : Int} (t : Tree) (p : Nat) (h1 : x1 = (p : Int)) (hE : Env K w wr [(t, v6)] [] [(g, .cells #[.int .i32 0, .int .i64 0] 36)]) (hR : t.cells[p]? = some R) (hs : t.size ≤ gk) (ha : t.cells.length ≤ 1048576) : CelI K w R g gk (.int .i64 x1) v6 wr := by
  obtain ⟨q, hq⟩ := (hE.t _ List.mem_cons_self).rep.ptr
  exact ⟨t, p, q, by rw [h1], hq, hE, hR, hs, ha⟩
theorem ret_cell {a b c d : Int} (h : a = c) (h2 : b = d) : Ending.returned (.tuple #[.agg #[.int .i32 a, .int .i64 b], .int .i64 0]) = .returned (.tuple #[.agg #[.int .i32 c, .int .i64 d], .int .i64 0]) := by rw [h, h2]
theorem get_open {l r : Tree} {rs : List Int} {hid plus : Int} {p : Nat} {R : Int × Int} (h : (Tree.node l rs hid r plus).cells[p]? = some R) :
    (p < (l.lift plus).cells.length → (l.lift plus).cells[p]? = some R) ∧ ((l.lift plus).cells.length ≤ p → p < (l.lift plus).cells.length + rs.length → rs[p - (l.lift plus).cells.length]? = some R.1 ∧ hid + plus = R.2) ∧ ((l.lift plus).cells.length + rs.length ≤ p → (r.lift plus).cells[p - (l.lift plus).cells.length - rs.length]? = some R) := by
  rw [cells_open] at h
  refine ⟨fun c => ?_, fun c1 c2 => ?_, fun c => ?_⟩
  · rwa [List.append_assoc, List.getElem?_append_left c] at h
  · rw [List.append_assoc, List.getElem?_append_right c1, List.getElem?_append_left (by rw [List.length_map]; omega), List.getElem?_map] at h
    cases hx : rs[p - (l.lift plus).cells.length]? with
    | none => rw [hx] at h; cases h
    | some x =>
      rw [hx] at h
      injection h with h
      rw [← h]
      exact ⟨rfl, rfl⟩
  · rw [List.append_assoc, List.getElem?_append_right (by omega), List.getElem?_append_right (by rw [List.length_map]; omega), List.length_map] at h
    exact h
set_option maxRecDepth 100000 in
set_option maxHeartbeats 16000000 in
theorem cell_yes {K0 : Nat → Prop} {w : World} {b : Nat} {t : Tree} (h : RopeAt K0 w b t) (hsz : t.cells.length ≤ 1048576) (p : Nat) (R : Int × Int) (hp : t.cells[p]? = some R) :
    Calls Tryd.prog 34 #[.pointer (some ⟨b, 0, none⟩), .int .i64 (p : Int)] w fun e w' => e = .returned (.tuple #[.agg #[.int .i32 R.1, .int .i64 R.2], .int .i64 0]) ∧ Below w.heap.size w w' := by
  have hpl : p < t.cells.length := (List.getElem?_eq_some_iff.1 hp).1
  have d0 : decide ((p : Int) < 0) = false := decide_eq_false (by omega)
  have d1 : decide (t.cells.length ≤ p) = false := decide_eq_false (by omega)
  have HP := Lib.hid hp
  have HS := Lib.hid hsz
  clear hp hsz hpl
  have hr : ∀ W, Below w.heap.size w W → RopeAt K0 W b t := fun W hW => h.below hW
  have HRr := Lib.hid hr
  clear hr
  go_enter Tryd.func34, Tryd.ntmps34
  obtain ⟨v, hv, hE0, q, rfl⟩ := h.env
  have hEb := hE0.box (.cells #[.int .i32 0, .int .i64 0] 36)
  go_wp2_with (go_at_call 19; refine (total_calls (HRr.out _ hEb.bel)).mono ?_; rintro e w2 ⟨rfl, hb3⟩; have hE2 := hEb.below hb3; have hv2 : w2.cell? ⟨b, 0, none⟩ = some (.pointer q) := pw_cell_below hE2.bel hv)
  have H0 : CelI (KU (fun k => K0 k ∧ k < w.heap.size) w.heap.size) w R w.heap.size t.size (.int .i64 (p : Int)) (.pointer q) w2 := CelI.mk t p rfl hE2 HP.out (Nat.le_refl _) HS.out
  clear d0 d1 HP HS hE0 hEb hE2 hv hv2 hb3 HRr h
  generalize hn : w.heap.size = g at H0 ⊢
  generalize KU (fun k => K0 k ∧ k < g) g = K at H0
  go_loopg [1, 6] t.size (fun gk v1 v6 wr => CelI K w R g gk v1 v6 wr)
  case atStart => exact H0
  case round =>
    clear H0
    obtain ⟨t', p', q', rfl, rfl, hE, hR, hgk, hal⟩ := hrel
    cases t' with
    | nil => exact absurd hR (by simp [Tree.cells])
    | node l rs hid r plus =>
      obtain ⟨k1, k2, k3⟩ := get_open hR
      have hlc := len_cells l rs hid r plus
      have hsl : (l.lift plus).size = l.size := Tree.size_lift _ _
      have hsr : (r.lift plus).size = r.size := Tree.size_lift _ _
      have hsn : (Tree.node l rs hid r plus).size = l.size + 1 + r.size := rfl
      have hpl : p' < (Tree.node l rs hid r plus).cells.length := (List.getElem?_eq_some_iff.1 hR).1
      clear hR
      obtain ⟨n, rfl⟩ : ∃ n, gk = n + 1 := ⟨gk - 1, by omega⟩
      obtain ⟨k, hk⟩ : ∃ k, k = (l.lift plus).cells.length := ⟨_, rfl⟩
      rw [← hk] at k1 k2 k3 hlc
      have HK := Lib.hid hk
      clear hk
      by_cases c1 : p' < k
      · have d1 : decide (p' < k) = true := decide_eq_true c1
        have F1 : Hid (∀ wx v1, Env K w wx [(l.lift plus, v1)] [] [(g, .cells #[.int .i32 0, .int .i64 0] 36)] → CelI K w R g n (.int .i64 (p' : Int)) v1 wx) := Lib.hid fun wx v1 hX => CelI.mk (l.lift plus) p' rfl hX (k1 c1) (by omega) (by rw [← HK.out]; omega)
        clear k1 k2 k3 hlc hsl hsr hsn hpl hgk hal c1
        go_wp2_with (first
          | (go_at_call 60; refine (open_env hE List.mem_cons_self).mono ?_; rintro e w4 ⟨x1, x2, A4, c4, rfl, hE1⟩)
          | (go_at_call 58; refine (all_len (hE1.box _) List.mem_cons_self).mono ?_; rw [← HK.out]; rintro e w5 ⟨y1, y2, y3, y4, y5, rfl, hE2⟩))
        go_roundg n
        case measure => omega
        case rel => exact F1.out _ _ (hE2.sub (by simp) (by simp) (by simp))
      · have d1 : decide (p' < k) = false := decide_eq_false c1
        have b1 : (k : Int) ≤ 1048576 := by omega
        have b2 : (p' : Int) ≤ 1048576 := by omega
        have b3 : (rs.length : Int) ≤ 1048576 := by omega
        have b4 : (k : Int) ≤ (p' : Int) := by omega
        by_cases c2 : p' < k + rs.length
        · have d2 : decide ((p' : Int) < (k : Int) + (rs.length : Int)) = true := decide_eq_true (by omega)
          obtain ⟨e1, e2⟩ := k2 (by omega) c2
          obtain ⟨j1, hj1⟩ : ∃ j1 : Int, (p' : Int) - (k : Int) = j1 := ⟨_, rfl⟩
          have wj1 : IntKind.i64.wrap ((p' : Int) - (k : Int)) = j1 := ((IntWalk.i64_left _).trans (w64 (by omega) (by omega))).trans hj1
          have jn : j1.toNat = p' - k := by omega
          have j0 : (0 ≤ j1) = True := eq_true (by omega)
          have j2 : (j1 < (rs.length : Int)) = True := eq_true (by omega)
          have e1' : rd rs j1 = R.1 := by
            show rs.getD j1.toNat 0 = R.1
            rw [jn, List.getD_eq_getElem?_getD, e1]
            rfl
          have E1 := Lib.hid e1'
          have E2 := Lib.hid e2
          have E3 := Lib.hid (show 0 ≤ j1 ∧ j1 < (rs.length : Int) by omega)
          clear k1 k2 k3 hlc hsl hsr hsn hpl hgk hal c1 c2 hj1 e1 e2 e1' jn b2 b4
          go_wp2_with (first
            | (go_at_call 60; refine (open_env hE List.mem_cons_self).mono ?_; rintro e w4 ⟨x1, x2, A4, c4, rfl, hE1⟩)
            | (go_at_call 58; refine (all_len (hE1.box _) List.mem_cons_self).mono ?_; rw [← HK.out]; rintro e w5 ⟨y1, y2, y3, y4, y5, rfl, hE2⟩; have z0 := hE2.cell0 (p := ⟨rs, hid + plus, A4, c4⟩) List.mem_cons_self; have z1 := hE2.cell1 (p := ⟨rs, hid + plus, A4, c4⟩) List.mem_cons_self; dsimp only at z0 z1))
          obtain ⟨ad, hAd, y0⟩ := Kd.at_int (hE2.p _ List.mem_cons_self).ra j1 E3.out.1 E3.out.2
          dsimp only at hAd
          subst hAd
          rw [E1.out] at y0
          obtain ⟨b0, b1⟩ := cells2k (hE2.b (g, .cells #[.int .i32 0, .int .i64 0] 36) (by simp))
          obtain ⟨f0, f1⟩ := froz2k (hE2.b (g, .cells #[.int .i32 0, .int .i64 0] 36) (by simp))
          obtain ⟨s0, s1⟩ := set2k (.int .i32 R.1) (.int .i64 (hid + plus)) (hE2.b (g, .cells #[.int .i32 0, .int .i64 0] 36) (by simp))
          have lg := hE2.lt (g := g) (o := .cells #[.int .i32 0, .int .i64 0] 36) (by simp)
          go_region
          all_goals
            go_wp2
            refine bodyPost_ret (v := .tuple #[.agg #[.int .i32 R.1, .int .i64 (hid + plus)], .int .i64 0]) (by simp [results, Tryd.results34, go_sem, s0, s1]) rfl ⟨ret_cell rfl E2.out, ?_⟩
            subst hn
            exact ((hE2.bel.setCell (Nat.le_refl _) _).setCell (Nat.le_refl _) _).drew
        · have d2 : decide ((p' : Int) < (k : Int) + (rs.length : Int)) = false := decide_eq_false (by omega)
          have F1 : Hid (∀ wx v1 x1, x1 = ((p' : Int) - (k : Int)) - (rs.length : Int) → Env K w wx [(r.lift plus, v1)] [] [(g, .cells #[.int .i32 0, .int .i64 0] 36)] → CelI K w R g n (.int .i64 x1) v1 wx) := Lib.hid fun wx v1 x1 h1 hX => CelI.mk (r.lift plus) (p' - k - rs.length) (by omega) hX (k3 (by omega)) (by omega) (by omega)
          have b5 : (rs.length : Int) ≤ (p' : Int) - (k : Int) := by omega
          obtain ⟨j1, hj1⟩ : ∃ j1 : Int, (p' : Int) - (k : Int) = j1 := ⟨_, rfl⟩
          have wj1 : IntKind.i64.wrap ((p' : Int) - (k : Int)) = j1 := ((IntWalk.i64_left _).trans (w64 (by omega) (by omega))).trans hj1
          have wj2 : IntKind.i64.wrap (j1 - (rs.length : Int)) = j1 - (rs.length : Int) := ((IntWalk.i64_left _).trans (w64 (by omega) (by omega)))
          have HJ1 := Lib.hid hj1
          clear k1 k2 k3 hlc hsl hsr hsn hpl hgk hal c1 c2 hj1 b5 b4 b2
          go_wp2_with (first
            | (go_at_call 60; refine (open_env hE List.mem_cons_self).mono ?_; rintro e w4 ⟨x1, x2, A4, c4, rfl, hE1⟩)
            | (go_at_call 58; refine (all_len (hE1.box _) List.mem_cons_self).mono ?_; rw [← HK.out]; rintro e w5 ⟨y1, y2, y3, y4, y5, rfl, hE2⟩; have z0 := hE2.cell0 (p := ⟨rs, hid + plus, A4, c4⟩) List.mem_cons_self; have z1 := hE2.cell1 (p := ⟨rs, hid + plus, A4, c4⟩) List.mem_cons_self; dsimp only at z0 z1))
          go_quiet (fail)
          go_wp2
          go_roundg n
          case measure => omega
          case rel => exact F1.out _ _ _ (by rw [HJ1.out]) ((hE2.sub (by simp) (by simp) (by simp)).below (pw_below_drewN (Below.refl _ _) _))
end Go.Proofs.YteeigokkafcaaaaDoorRope
end
section
namespace Go.Proofs.YteeigokkafcaaaaDoorRope
open Go.RowKit Go.Proofs.YteeigokkafcaaaaDoorW.PrintWords Go.Proofs.YteeigokkafcaaaaDoorW.PrintMore
set_option linter.unusedSimpArgs false
set_option linter.unusedVariables false
def Rpo (M : Nat → Prop) (W : World) : Tree → Value → Prop
  | .nil, v => v = .pointer none
  | .node l rs hid r plus, v => ∃ a vl vr A c, v = .pointer (some ⟨a, 0, none⟩) ∧ W.heap[a]? = some (.cells (nodeCells (.node l rs hid r plus) vl vr A c) 153 (0, 0)) ∧ rs.length ≤ c ∧ RunesAt W A rs ∧ (∀ ad, A = some ad → M ad.block) ∧ Rpo M W l vl ∧ Rpo M W r vr
theorem Rpo.of {K : Nat → Prop} {W : World} {t : Tree} : ∀ {v : Value}, Rep K W t v → Rpo K W t v := by
  induction t with
  | nil => intro v h; exact h
  | node l rs hid r plus ihl ihr =>
    rintro v ⟨a, vl, vr, A, c, rfl, hh, ha, hc, hr, hA, h1, h2⟩
    exact ⟨a, vl, vr, A, c, rfl, hh, hc, hr, hA, ihl h1, ihr h2⟩
theorem Rpo.rep {M : Nat → Prop} {W : World} {t : Tree} : ∀ {v : Value}, Rpo M W t v → Rep (fun _ => True) W t v := by
  induction t with
  | nil => intro v h; exact h
  | node l rs hid r plus ihl ihr =>
    rintro v ⟨a, vl, vr, A, c, rfl, hh, hc, hr, hA, h1, h2⟩
    exact ⟨a, vl, vr, A, c, rfl, hh, trivial, hc, hr, fun _ _ => trivial, ihl h1, ihr h2⟩
theorem Rpo.ptr {M : Nat → Prop} {W : World} {t : Tree} {v : Value} (h : Rpo M W t v) : ∃ p, v = .pointer p := h.rep.ptr
theorem Rpo.move {M : Nat → Prop} {t : Tree} : ∀ {W W' : World} {v : Value}, Rpo M W t v → (∀ (k : Nat) (c : Array Value), W.heap[k]? = some (Obj.cells c 153 (0, 0)) → W'.heap[k]? = some (Obj.cells c 153 (0, 0))) → (∀ k, M k → k < W.heap.size → W'.heap[k]? = W.heap[k]?) → Rpo M W' t v := by
  induction t with
  | nil => intro W W' v h _ _; exact h
  | node l rs hid r plus ihl ihr =>
    rintro W W' v ⟨a, vl, vr, A, c, rfl, hh, hc, hr, hA, h1, h2⟩ hn hm
    exact ⟨a, vl, vr, A, c, rfl, hn _ _ hh, hc, hr.move (fun ad e h => hm _ (hA ad e) h), hA, ihl h1 hn hm, ihr h2 hn hm⟩
theorem Rpo.below {M : Nat → Prop} {t : Tree} {W W' : World} {v : Value} (h : Rpo M W t v) (hb : Below W.heap.size W W') : Rpo M W' t v :=
  h.move (fun k c hk => (hb.block k (new_lt hk)).trans hk) (fun k _ hk => hb.block k hk)
theorem Rpo.drewIff {M : Nat → Prop} {W : World} {t : Tree} {v : Value} : Rpo M W.drew t v ↔ Rpo M W t v := ⟨fun h => Rpo.below h (show Below W.drew.heap.size W.drew W from ⟨rfl, rfl, rfl, Nat.le_refl _, fun _ _ => rfl⟩), fun h => Rpo.below h (Below.refl _ W).drew⟩
attribute [local simp] Rpo.drewIff
theorem Rpo.set2 {M : Nat → Prop} {W : World} {t : Tree} {v : Value} {P : Nat} {u1 u2 : Value} (h : Rpo M W t v) {c : Array Value} (hP : W.heap[P]? = some (.cells c 113 (0, 0))) (hM : ¬ M P) : Rpo M ((W.setCell ⟨P, 0, none⟩ u1).setCell ⟨P, 1, none⟩ u2) t v :=
  h.move (fun k c' hk => by
    have hne : k ≠ P := by
      rintro rfl
      rw [hP] at hk
      injection hk with hk
      injection hk with _ hk _
      exact absurd hk (by decide)
    exact (Below.heap_setCell _ _ _ _ (fun e => hne e)).trans ((Below.heap_setCell _ _ _ _ (fun e => hne e)).trans hk))
    (fun k hk _ => (Below.heap_setCell _ _ _ _ (fun e => hM (by rw [← show k = P from e]; exact hk))).trans (Below.heap_setCell _ _ _ _ (fun e => hM (by rw [← show k = P from e]; exact hk))))
theorem lift2_calls {M : Nat → Prop} {w : World} {t : Tree} {v : Value} {b : Int} (h : Rpo M w t v) (hg : t.Good b) (hb : -1048577 ≤ b ∧ b ≤ 1048577) : Calls Tryd.prog 75 #[v, .int .i64 b] w fun e w' => ∃ v', e = .returned v' ∧ Rpo M w' (t.lift b) v' ∧ Below w.heap.size w w' := by
  have hf := hg.fit hb
  cases t with
  | nil =>
    cases h
    exact (lift_nil b w).mono fun e w' ⟨he, hb⟩ => ⟨_, he, rfl, hb⟩
  | node l rs hid r plus =>
    obtain ⟨a, vl, vr, A, c, rfl, hh, hc, hr, hA, h1, h2⟩ := h
    have hlt := (Array.getElem?_eq_some_iff.1 hh).1
    obtain ⟨g1, g2, g3, g4, g5, g6, g7, g8, g9⟩ := hg
    by_cases hb0 : b = 0
    · subst hb0
      refine (lift_zero hlt (node_cell hh rfl) (node_cell hh rfl) (node_cell hh rfl) (node_cell hh rfl) (node_cell hh rfl) (node_cell hh rfl) hf.1.1 hf.1.2 hf.2.1 hf.2.2).mono ?_
      rintro e w' ⟨he, hb'⟩
      rw [lift_zero_tree]
      exact ⟨_, he, Rpo.below (t := .node l rs hid r plus) ⟨a, vl, vr, A, c, rfl, hh, hc, hr, hA, h1, h2⟩ hb', hb'⟩
    · refine (lift_node hb0 hlt hh h1.ptr h2.ptr (by omega) (by omega) hf.1.1 hf.1.2 hf.2.1 hf.2.2 (by omega) (by omega)).mono ?_
      rintro e w' ⟨g, he, hg', hgl, hb'⟩
      refine ⟨_, he, ⟨g, vl, vr, A, c, rfl, ?_, hc, Kd.C_below hr hb', hA, h1.below hb', h2.below hb'⟩, hb'⟩
      rw [hg']
      have e1 := sm_lift_node l rs hid r plus b
      simp only [nodeCells, e1]
      rfl
set_option maxRecDepth 100000 in
set_option maxHeartbeats 4000000 in
theorem open2_calls {M : Nat → Prop} {w : World} {l r : Tree} {rs : List Int} {hid plus : Int} {v : Value} (hK : ∀ k, M k → k < w.heap.size) (h : Rpo M w (.node l rs hid r plus) v) (hg : (Tree.node l rs hid r plus).Good 0) : Calls Tryd.prog 60 #[v] w fun e w' => ∃ v1 v2 A c, e = .returned (.tuple #[v1, .agg #[.slice A rs.length c, .int .i64 (hid + plus)], v2]) ∧ Rpo M w' (l.lift plus) v1 ∧ Rpo M w' (r.lift plus) v2 ∧ RunesAt w' A rs ∧ (∀ ad, A = some ad → M ad.block) ∧ rs.length ≤ c ∧ Below w.heap.size w w' := by
  obtain ⟨a, vl, vr, A, c, rfl, hh, hc, hr, hA, h1, h2⟩ := h
  obtain ⟨g1, g2, g3, g4, g5, g6, g7, g8, g9⟩ := hg
  rw [Int.add_zero] at g4 g5 g8 g9
  have hlt := (Array.getElem?_eq_some_iff.1 hh).1
  have c6 : w.cell? ⟨a, 6, none⟩ = some vl := node_cell hh rfl
  have c7 : w.cell? ⟨a, 7, none⟩ = some vr := node_cell hh rfl
  have c8 : w.cell? ⟨a, 8, none⟩ = some (.slice A rs.length c) := node_cell hh rfl
  have c9 : w.cell? ⟨a, 9, none⟩ = some (.int .i64 hid) := node_cell hh rfl
  have c10 : w.cell? ⟨a, 10, none⟩ = some (.int .i64 plus) := node_cell hh rfl
  obtain ⟨pl, rfl⟩ := h1.ptr
  obtain ⟨pr, rfl⟩ := h2.ptr
  have hpb : -1048577 ≤ plus ∧ plus ≤ 1048577 := by omega
  obtain ⟨hp1, hp2⟩ := hpb
  clear hh g6 g7
  go_enter Tryd.func60, Tryd.ntmps60
  go_wp2
  go_region
  all_goals
    obtain ⟨W3, hW3⟩ : ∃ W3, ((w.alloc (.cells #[.slice none 0 0, .int .i64 0] 113)).alloc (.cells #[.slice A rs.length c, .int .i64 (hid + plus)] 113)).drew = W3 := ⟨_, rfl⟩
    have hb3 : Below w.heap.size w W3 := by rw [← hW3]; (repeat first | exact Below.refl _ _ | assumption | refine Below.drew ?_ | refine Below.alloc ?_ (by simp; try omega) _ | refine Below.setCell ?_ (by simp; try omega) _)
    have z3 : W3.heap.size = w.heap.size + 1 + 1 := by rw [← hW3]; simp
    have pH : W3.drew.heap[w.heap.size]? = some (.cells #[.slice none 0 0, .int .i64 0] 113 (0, 0)) := by rw [← hW3]; exact ((Below.refl _ _).alloc (Nat.le_refl _) _).block _ (by simp) |>.trans (heap_new w _)
    have p0 : W3.cell? ⟨w.heap.size, 0, none⟩ = some (.slice none 0 0) := by rw [← hW3]; simp
    have p1 : W3.cell? ⟨w.heap.size, 1, none⟩ = some (.int .i64 0) := by rw [← hW3]; simp
    have pf : W3.frozen? ⟨w.heap.size, 0, none⟩ = false := by rw [← hW3]; simp
    have pf1 : W3.frozen? ⟨w.heap.size, 1, none⟩ = false := by rw [← hW3]; simp
    have q0 : W3.cell? ⟨w.heap.size + 1, 0, none⟩ = some (.slice A rs.length c) := by rw [← hW3]; simp
    have q1 : W3.cell? ⟨w.heap.size + 1, 1, none⟩ = some (.int .i64 (hid + plus)) := by rw [← hW3]; simp
    rw [hW3]
    have d6 := bcell hb3 c6
    have d7 := bcell hb3 c7
    have d10 := bcell hb3 c10
    have e1 := h1.below hb3
    have e2 := h2.below hb3
    have er := Kd.C_below hr hb3
    clear c6 c7 c8 c9 c10 h1 h2 hr hW3
    have tok1 : True := trivial
    have ea : w.heap.size ≠ a := by omega
    go_wp2
    go_region_held3 (fun W' => W'.cell? ⟨a, 6, none⟩ = some (.pointer pl) ∧ W'.cell? ⟨a, 7, none⟩ = some (.pointer pr) ∧ W'.cell? ⟨a, 10, none⟩ = some (.int .i64 plus) ∧ W'.cell? ⟨w.heap.size + 1, 0, none⟩ = some (.slice A rs.length c) ∧ W'.cell? ⟨w.heap.size + 1, 1, none⟩ = some (.int .i64 (hid + plus)) ∧ W3.heap.size ≤ W'.heap.size)
      (first
        | (go_keep; done)
        | (go_split_ands; refine ⟨?_, ?_, ?_, ?_, ?_, ?_⟩ <;> first | assumption | exact cell_set2 ea (by assumption) | exact cell_set2 (Nat.ne_of_lt (Nat.lt_succ_self _)) (by assumption) | exact size_set2 (by assumption) | exact bcell hb5 (by assumption) | exact bcell hb4 (by assumption) | exact Nat.le_trans (by assumption) hb5.size | exact hb4.size))
      (first
        | (go_at_call 75; clear tok1; refine (lift2_calls (M := M) (t := l) ?_ g8 ⟨hp1, hp2⟩).mono ?_; exact Rpo.drewIff.2 e1; rintro e w4 ⟨v1, rfl, hr4, hb4⟩)
        | (go_at_call 75; refine (lift2_calls (M := M) (t := r) ?_ g9 ⟨hp1, hp2⟩).mono ?_; exact Rpo.below (Rpo.drewIff.2 e2) hb4; rintro e w5 ⟨v2, rfl, hr5, hb5⟩; have hlx : w.heap.size < W3.drew.heap.size := (by simp; omega); have s0 := bcell hb5 (bcell hb4 (show W3.drew.cell? ⟨w.heap.size, 0, none⟩ = _ from p0)); have s1 := bcell hb5 (bcell hb4 (show W3.drew.cell? ⟨w.heap.size, 1, none⟩ = _ from p1)); have sf := bfroz hb5 (bfroz hb4 (show W3.drew.frozen? ⟨w.heap.size, 0, none⟩ = false from pf) hlx) (Nat.lt_of_lt_of_le hlx hb4.size); have sf1 := bfroz hb5 (bfroz hb4 (show W3.drew.frozen? ⟨w.heap.size, 1, none⟩ = false from pf1) hlx) (Nat.lt_of_lt_of_le hlx hb4.size)))
    go_wp2
    have hz4 := hb4.size
    have hz5 := hb5.size
    rw [World.size_drew, z3] at hz4
    refine bodyPost_ret (v := .tuple #[v1, .agg #[.slice A rs.length c, .int .i64 (hid + plus)], v2]) ?res rfl ⟨v1, v2, A, c, rfl, ?r1, ?r2, ?r3, hA, hc, ?r4⟩
    case res =>
      have hss := of_set2 (u1 := .slice A rs.length c) (u2 := .int .i64 (hid + plus)) s0 s1
      simp [results, Tryd.results60, go_sem, hss.1, hss.2]
    case r1 => exact Rpo.set2 (hr4.below hb5) ((hb5.block _ (Nat.lt_of_lt_of_le hlx hb4.size)).trans ((hb4.block _ hlx).trans pH)) (fun h => by have := hK _ h; omega)
    case r2 => exact Rpo.set2 hr5 ((hb5.block _ (Nat.lt_of_lt_of_le hlx hb4.size)).trans ((hb4.block _ hlx).trans pH)) (fun h => by have := hK _ h; omega)
    case r3 => exact RunesAt.set2 (Kd.C_below (Kd.C_below (Kd.C_drew er) hb4) hb5) (fun ad e => by have := hK _ (hA ad e); omega)
    case r4 => exact below_set2 (((hb3.drew).trans (hb4.mono (by simp; omega))).trans (hb5.mono (by omega))) (Nat.le_refl _)
end Go.Proofs.YteeigokkafcaaaaDoorRope
end
section
namespace Go.Proofs.YteeigokkafcaaaaDoorRope
open Go.RowKit Go.Proofs.YteeigokkafcaaaaDoorW.PrintWords Go.Proofs.YteeigokkafcaaaaDoorW.PrintMore
set_option linter.unusedSimpArgs false
set_option linter.unusedVariables false
attribute [local go_sem] run_field2 run_field0
structure KpW (B : Nat) (W W' : World) : Prop where
  b : Below B W W'
  n : ∀ (k : Nat) (c : Array Value) (ty : Nat), ty = 153 ∨ ty = 113 → W.heap[k]? = some (Obj.cells c ty (0, 0)) → W'.heap[k]? = some (Obj.cells c ty (0, 0))
theorem KpW.refl (B : Nat) (W : World) : KpW B W W := ⟨Below.refl _ _, fun _ _ _ _ h => h⟩
theorem KpW.trans {B : Nat} {A W W' : World} (h : KpW B A W) (k : KpW B W W') : KpW B A W' := ⟨h.b.trans k.b, fun i c ty ht hi => k.n i c ty ht (h.n i c ty ht hi)⟩
theorem KpW.of {B : Nat} {W W' : World} (h : Below W.heap.size W W') (hB : B ≤ W.heap.size) : KpW B W W' := ⟨h.mono hB, fun k c ty _ hk => (h.block k (new_lt hk)).trans hk⟩
theorem Rpo.kept {B : Nat} {W W' : World} {t : Tree} {v : Value} (h : Rpo (fun k => k < B) W t v) (hk : KpW B W W') : Rpo (fun k => k < B) W' t v :=
  h.move (fun k c hc => hk.n k c 153 (.inl rfl) hc) (fun k hkB _ => hk.b.block k hkB)
theorem RunesAt.kept {B : Nat} {W W' : World} {A : Option Addr} {l : List Int} (h : RunesAt W A l) (hA : ∀ ad, A = some ad → ad.block < B) (hk : KpW B W W') : RunesAt W' A l :=
  h.move (fun ad e _ => hk.b.block _ (hA ad e))
theorem all_len2 {M : Nat → Prop} {W : World} {t : Tree} {v : Value} (h : Rpo M W t v) (hg : t.Good 0) : Calls Tryd.prog 58 #[v] W fun e w' => ∃ x1 x2 x3 x4 x5 : Int, e = .returned (.agg #[.int .i64 (t.cells.length : Int), .int .i64 x1, .int .i64 x2, .int .i64 x3, .int .i64 x4, .int .i64 x5]) ∧ Below W.heap.size W w' :=
  (all_calls h.rep).mono fun e w' ⟨he, hb⟩ => ⟨t.sm.lv, t.ht, t.sm.mi, t.sm.am, t.sm.ma, by rw [he, smVal, hg.sums.tot], hb⟩
def At (C : List (Int × Int)) (n : Nat) (s : List (Int × Int)) : Prop := ∃ X Y, C = X ++ s ++ Y ∧ X.length = n
theorem At.le {C : List (Int × Int)} {n : Nat} {s : List (Int × Int)} (h : At C n s) : n + s.length ≤ C.length := by
  obtain ⟨X, Y, rfl, rfl⟩ := h
  simp only [List.length_append]
  omega
theorem At.split3 {C a b c : List (Int × Int)} {n : Nat} (h : At C n (a ++ b ++ c)) : At C n a ∧ At C (n + a.length) b ∧ At C (n + a.length + b.length) c := by
  obtain ⟨X, Y, rfl, rfl⟩ := h
  exact ⟨⟨X, b ++ c ++ Y, by simp, rfl⟩, ⟨X ++ a, c ++ Y, by simp, by simp⟩, ⟨X ++ a ++ b, Y, by simp, by simp [Nat.add_assoc]⟩⟩
theorem At.all (C : List (Int × Int)) : At C 0 C := ⟨[], [], by simp, rfl⟩
section
variable {B : Nat} {C : List (Int × Int)} {lo : Nat} {J : Nat → World → Prop} {Jx : World → Prop} {k0 k1 k2 : Value}
set_option maxRecDepth 100000 in
set_option maxHeartbeats 16000000 in
theorem walk_101 (hC : C.length ≤ 1048576) (hlo : lo ≤ 1048576)
    (hS : ∀ (at_ : Nat) (p : Pc) (W : World), J at_ W → lo < at_ + p.rs.length → At C at_ p.cells → RunesAt W p.A p.rs → (∀ ad, p.A = some ad → ad.block < B) → p.rs.length ≤ p.c → p.rs ≠ [] → 0 ≤ p.hid → B ≤ W.heap.size → Calls Tryd.prog 101 #[.int .i64 (at_ : Int), .agg #[.slice p.A p.rs.length p.c, .int .i64 p.hid], k0, k1, k2] W fun e w' => (e = .returned (.bool true) ∧ J (at_ + p.rs.length) w' ∧ KpW B W w') ∨ (e = .returned (.bool false) ∧ Jx w'))
    (hskip : ∀ (at_ n : Nat) (W : World), J at_ W → at_ + n ≤ lo → J (at_ + n) W)
    (hJ : ∀ (at_ : Nat) (W W' : World), J at_ W → Below W.heap.size W W' → J at_ W') :
    ∀ (n : Nat) (t : Tree) (v : Value) (W : World) (ahead : Nat), t.size ≤ n → Rpo (fun k => k < B) W t v → t.Good 0 → B ≤ W.heap.size → At C ahead t.cells → J ahead W →
    Calls Tryd.prog 65 #[v, .int .i64 (ahead : Int), .int .i64 (lo : Int), .func (.func 101) #[] #[k0, k1, k2]] W fun e w' => (e = .returned (.bool true) ∧ J (ahead + t.cells.length) w' ∧ KpW B W w') ∨ (e = .returned (.bool false) ∧ Jx w') := by
  intro n
  induction n with
  | zero =>
    intro t v W ahead hn h hg hB hc h0
    cases t with
    | nil =>
      cases h
      go_enter Tryd.func65, Tryd.ntmps65
      go_wp2
      go_ret
      exact .inl ⟨rfl, h0, KpW.refl _ _⟩
    | node l rs hid r plus => simp [Tree.size] at hn
  | succ n ih =>
    intro t v W ahead hn h hg hB hc h0
    cases t with
    | nil =>
      cases h
      go_enter Tryd.func65, Tryd.ntmps65
      go_wp2
      go_ret
      exact .inl ⟨rfl, h0, KpW.refl _ _⟩
    | node l rs hid r plus =>
      have h' := h
      obtain ⟨a, vl, vr, A, c, rfl, hh, hrc, hr, hA, h1, h2⟩ := h'
      have ct : W.cell? ⟨a, 0, none⟩ = some (.int .i64 ((Tree.node l rs hid r plus).cells.length : Int)) := by rw [← hg.sums.tot]; exact node_cell hh rfl
      clear h1 h2 hr hA hrc hh vl vr
      obtain ⟨T, hT⟩ : ∃ T, T = (Tree.node l rs hid r plus).cells.length := ⟨_, rfl⟩
      have hl := hc.le
      rw [← hT] at ct hl ⊢
      have bT : (ahead : Int) + (T : Int) ≤ 1048576 := by omega
      have bl : (lo : Int) ≤ 1048576 := by omega
      by_cases c1 : ahead + T ≤ lo
      · have d1 : decide ((ahead : Int) + (T : Int) ≤ (lo : Int)) = true := decide_eq_true (by omega)
        go_enter Tryd.func65, Tryd.ntmps65
        go_wp2
        go_ret
        exact .inl ⟨rfl, hskip _ _ _ h0 c1, KpW.refl _ _⟩
      · have d1 : decide ((ahead : Int) + (T : Int) ≤ (lo : Int)) = false := decide_eq_false (by omega)
        have hlc := len_cells l rs hid r plus
        rw [← hT] at hlc
        have hat := hc
        rw [cells_open] at hat
        obtain ⟨a1, a2, a3⟩ := hat.split3
        rw [List.length_map] at a3
        clear hat hc
        obtain ⟨g1, g2, g3, g4, g5, g6, g7, g8, g9⟩ := id hg
        rw [Int.add_zero] at g4 g5 g8 g9
        have gl : (l.lift plus).Good 0 := Tree.Good.lift (by simpa using g8)
        have gr : (r.lift plus).Good 0 := Tree.Good.lift (by simpa using g9)
        have hsl : (l.lift plus).size ≤ n := by rw [Tree.size_lift]; simp only [Tree.size] at hn; omega
        have hsr : (r.lift plus).size ≤ n := by rw [Tree.size_lift]; simp only [Tree.size] at hn; omega
        have hop := open2_calls (fun k hk => Nat.lt_of_lt_of_le hk hB) h hg
        have hhp : 0 ≤ hid + plus := by omega
        clear g2 g3 g4 g5 g6 g7 g8 g9 hg h
        obtain ⟨L, hL⟩ : ∃ L, L = (l.lift plus).cells.length := ⟨_, rfl⟩
        rw [← hL] at hlc a2 a3
        have bL : (ahead : Int) + (L : Int) ≤ 1048576 := by omega
        have bR : (ahead : Int) + (L : Int) + (rs.length : Int) ≤ 1048576 := by omega
        have HL := Lib.hid hL
        have HLC := Lib.hid hlc
        clear hL hlc hT bT c1 hn
        go_enter Tryd.func65, Tryd.ntmps65
        go_wp2_with (go_at_call 60; refine hop.mono ?_; rintro e w1 ⟨v1, v2, A1, d1, rfl, hr1, hr2, hra, hA1, hcap, hb1⟩)
        have hB1 : B ≤ w1.heap.size := Nat.le_trans hB hb1.size
        have kp1 := KpW.of hb1 hB
        obtain ⟨W2, hW2⟩ : ∃ W2, w1.alloc (.cells #[.slice A1 rs.length d1, .int .i64 (hid + plus)] 113) = W2 := ⟨_, rfl⟩
        have hba : Below w1.heap.size w1 W2 := by rw [← hW2]; exact below_alloc (Below.refl _ w1) _
        have hbx : W2.heap[w1.heap.size]? = some (Obj.cells #[.slice A1 rs.length d1, .int .i64 (hid + plus)] 113 (0, 0)) := by rw [← hW2]; exact heap_new _ _
        have kp2 := kp1.trans (KpW.of hba hB1)
        have hB2 : B ≤ W2.heap.size := Nat.le_trans hB1 hba.size
        have s1 := hr1.below hba
        have s2 := hr2.below hba
        have s3 := Kd.C_below hra hba
        have hj2 := hJ _ _ _ (hJ _ _ _ h0 hb1) hba
        rw [hW2]
        clear hr1 hr2 hra h0 hb1 hW2 hba kp1 hop ct
        generalize w1.heap.size = bx at hbx
        go_at_call 65
        refine (ih _ _ _ _ hsl s1 gl hB2 a1 hj2).mono ?_
        rintro e w3 (⟨rfl, hj3, kp3⟩ | ⟨rfl, hjx⟩)
        case inr =>
          simp only []
          go_at_K
          go_wp2
          go_ret
          exact .inr ⟨rfl, hjx⟩
        simp only []
        go_at_K
        rw [← HL.out] at hj3
        have hB3 : B ≤ w3.heap.size := Nat.le_trans hB2 kp3.b.size
        have s3 := RunesAt.kept s3 hA1 kp3
        have s1 := s1.kept kp3
        have s2 := s2.kept kp3
        have hbx := kp3.n _ _ _ (.inr rfl) hbx
        have kp3 := kp2.trans kp3
        by_cases c2 : lo < ahead + L + rs.length
        · have d2 : decide ((lo : Int) < (ahead : Int) + (L : Int) + (rs.length : Int)) = true := decide_eq_true (by omega)
          have a2l : At C (ahead + L) (Pc.cells ⟨rs, hid + plus, A1, d1⟩) := a2
          go_wp2_with (first
            | (go_at_call 58; refine (all_len2 s1 gl).mono ?_; rw [← HL.out]; rintro e w4 ⟨y1, y2, y3, y4, y5, rfl, hb4⟩; have hbx4 := (hb4.block _ (new_lt hbx)).trans hbx; have hz := cells2 hbx4; obtain ⟨z0, z1⟩ := hz; have kp4 := KpW.of hb4 hB3; have t2 := s2.below hb4; have t3 := Kd.C_below s3 hb4; have hj4 := hJ _ _ _ hj3 hb4; have hB4 := Nat.le_trans hB3 hb4.size)
            | (go_at_call 101; refine (hS (ahead + L) ⟨rs, hid + plus, A1, d1⟩ w4 hj4 c2 a2l t3 hA1 hcap g1 hhp hB4).mono ?_))
          rintro e w5 (⟨rfl, hj5, kp5⟩ | ⟨rfl, hjx⟩)
          case inr =>
            simp only []
            go_at_K
            go_wp2
            go_ret
            exact .inr ⟨rfl, hjx⟩
          simp only []
          go_at_K
          have hbx5 := kp5.n _ _ _ (.inr rfl) hbx4
          have hz := cells2 hbx5
          obtain ⟨z0, z1⟩ := hz
          have t2 := t2.kept kp5
          have hB5 := Nat.le_trans hB4 kp5.b.size
          have e0 : ((ahead : Int) + (L : Int) + (rs.length : Int)) = ((ahead + L + rs.length : Nat) : Int) := by omega
          have E0 := Lib.hid e0
          clear e0
          have kpA := kp3.trans (kp4.trans kp5)
          go_wp2_with (go_at_call 65; rw [E0.out]; refine (ih _ _ _ _ hsr t2 gr hB5 a3 hj5).mono ?_)
          rintro e w6 (⟨rfl, hj6, kp6⟩ | ⟨rfl, hjx⟩)
          case inr =>
            simp only []
            go_at_K
            go_wp2
            go_ret
            exact .inr ⟨rfl, hjx⟩
          simp only []
          go_at_K
          have hj7 : J (ahead + T) w6 := by rw [HLC.out, ← Nat.add_assoc, ← Nat.add_assoc]; exact hj6
          go_wp2
          go_ret
          exact .inl ⟨rfl, hj7, kpA.trans kp6⟩
        · have d2 : decide ((lo : Int) < (ahead : Int) + (L : Int) + (rs.length : Int)) = false := decide_eq_false (by omega)
          go_wp2_with (first
            | (go_at_call 58; refine (all_len2 s1 gl).mono ?_; rw [← HL.out]; rintro e w4 ⟨y1, y2, y3, y4, y5, rfl, hb4⟩; have hbx4 := (hb4.block _ (new_lt hbx)).trans hbx; have hz := cells2 hbx4; obtain ⟨z0, z1⟩ := hz; have kp4 := KpW.of hb4 hB3; have t2 := s2.below hb4; have t3 := Kd.C_below s3 hb4; have hj4 := hJ _ _ _ hj3 hb4; have hB4 := Nat.le_trans hB3 hb4.size))
          have hj5 : J (ahead + L + rs.length) w4 := hskip _ _ _ hj4 (by omega)
          have e0 : ((ahead : Int) + (L : Int) + (rs.length : Int)) = ((ahead + L + rs.length : Nat) : Int) := by omega
          have E0 := Lib.hid e0
          clear e0
          have kpA := kp3.trans kp4
          go_wp2_with (go_at_call 65; rw [E0.out]; refine (ih _ _ _ _ hsr t2 gr hB4 a3 hj5).mono ?_)
          rintro e w6 (⟨rfl, hj6, kp6⟩ | ⟨rfl, hjx⟩)
          case inr =>
            simp only []
            go_at_K
            go_wp2
            go_ret
            exact .inr ⟨rfl, hjx⟩
          simp only []
          go_at_K
          have hj7 : J (ahead + T) w6 := by rw [HLC.out, ← Nat.add_assoc, ← Nat.add_assoc]; exact hj6
          go_wp2
          go_ret
          exact .inl ⟨rfl, hj7, kpA.trans kp6⟩
end
section
variable {B : Nat} {C : List (Int × Int)} {lo : Nat} {J : Nat → World → Prop} {Jx : World → Prop} {k0 k1 k2 : Value}
set_option maxRecDepth 100000 in
set_option maxHeartbeats 16000000 in
theorem walk_66 (hC : C.length ≤ 1048576) (hlo : lo ≤ 1048576)
    (hS : ∀ (at_ : Nat) (p : Pc) (W : World), J at_ W → lo < at_ + p.rs.length → At C at_ p.cells → RunesAt W p.A p.rs → (∀ ad, p.A = some ad → ad.block < B) → p.rs.length ≤ p.c → p.rs ≠ [] → 0 ≤ p.hid → B ≤ W.heap.size → Calls Tryd.prog 66 #[.int .i64 (at_ : Int), .agg #[.slice p.A p.rs.length p.c, .int .i64 p.hid], k0, k1, k2] W fun e w' => (e = .returned (.bool true) ∧ J (at_ + p.rs.length) w' ∧ KpW B W w') ∨ (e = .returned (.bool false) ∧ Jx w'))
    (hskip : ∀ (at_ n : Nat) (W : World), J at_ W → at_ + n ≤ lo → J (at_ + n) W)
    (hJ : ∀ (at_ : Nat) (W W' : World), J at_ W → Below W.heap.size W W' → J at_ W') :
    ∀ (n : Nat) (t : Tree) (v : Value) (W : World) (ahead : Nat), t.size ≤ n → Rpo (fun k => k < B) W t v → t.Good 0 → B ≤ W.heap.size → At C ahead t.cells → J ahead W →
    Calls Tryd.prog 65 #[v, .int .i64 (ahead : Int), .int .i64 (lo : Int), .func (.func 66) #[] #[k0, k1, k2]] W fun e w' => (e = .returned (.bool true) ∧ J (ahead + t.cells.length) w' ∧ KpW B W w') ∨ (e = .returned (.bool false) ∧ Jx w') := by
  intro n
  induction n with
  | zero =>
    intro t v W ahead hn h hg hB hc h0
    cases t with
    | nil =>
      cases h
      go_enter Tryd.func65, Tryd.ntmps65
      go_wp2
      go_ret
      exact .inl ⟨rfl, h0, KpW.refl _ _⟩
    | node l rs hid r plus => simp [Tree.size] at hn
  | succ n ih =>
    intro t v W ahead hn h hg hB hc h0
    cases t with
    | nil =>
      cases h
      go_enter Tryd.func65, Tryd.ntmps65
      go_wp2
      go_ret
      exact .inl ⟨rfl, h0, KpW.refl _ _⟩
    | node l rs hid r plus =>
      have h' := h
      obtain ⟨a, vl, vr, A, c, rfl, hh, hrc, hr, hA, h1, h2⟩ := h'
      have ct : W.cell? ⟨a, 0, none⟩ = some (.int .i64 ((Tree.node l rs hid r plus).cells.length : Int)) := by rw [← hg.sums.tot]; exact node_cell hh rfl
      clear h1 h2 hr hA hrc hh vl vr
      obtain ⟨T, hT⟩ : ∃ T, T = (Tree.node l rs hid r plus).cells.length := ⟨_, rfl⟩
      have hl := hc.le
      rw [← hT] at ct hl ⊢
      have bT : (ahead : Int) + (T : Int) ≤ 1048576 := by omega
      have bl : (lo : Int) ≤ 1048576 := by omega
      by_cases c1 : ahead + T ≤ lo
      · have d1 : decide ((ahead : Int) + (T : Int) ≤ (lo : Int)) = true := decide_eq_true (by omega)
        go_enter Tryd.func65, Tryd.ntmps65
        go_wp2
        go_ret
        exact .inl ⟨rfl, hskip _ _ _ h0 c1, KpW.refl _ _⟩
      · have d1 : decide ((ahead : Int) + (T : Int) ≤ (lo : Int)) = false := decide_eq_false (by omega)
        have hlc := len_cells l rs hid r plus
        rw [← hT] at hlc
        have hat := hc
        rw [cells_open] at hat
        obtain ⟨a1, a2, a3⟩ := hat.split3
        rw [List.length_map] at a3
        clear hat hc
        obtain ⟨g1, g2, g3, g4, g5, g6, g7, g8, g9⟩ := id hg
        rw [Int.add_zero] at g4 g5 g8 g9
        have gl : (l.lift plus).Good 0 := Tree.Good.lift (by simpa using g8)
        have gr : (r.lift plus).Good 0 := Tree.Good.lift (by simpa using g9)
        have hsl : (l.lift plus).size ≤ n := by rw [Tree.size_lift]; simp only [Tree.size] at hn; omega
        have hsr : (r.lift plus).size ≤ n := by rw [Tree.size_lift]; simp only [Tree.size] at hn; omega
        have hop := open2_calls (fun k hk => Nat.lt_of_lt_of_le hk hB) h hg
        have hhp : 0 ≤ hid + plus := by omega
        clear g2 g3 g4 g5 g6 g7 g8 g9 hg h
        obtain ⟨L, hL⟩ : ∃ L, L = (l.lift plus).cells.length := ⟨_, rfl⟩
        rw [← hL] at hlc a2 a3
        have bL : (ahead : Int) + (L : Int) ≤ 1048576 := by omega
        have bR : (ahead : Int) + (L : Int) + (rs.length : Int) ≤ 1048576 := by omega
        have HL := Lib.hid hL
        have HLC := Lib.hid hlc
        clear hL hlc hT bT c1 hn
        go_enter Tryd.func65, Tryd.ntmps65
        go_wp2_with (go_at_call 60; refine hop.mono ?_; rintro e w1 ⟨v1, v2, A1, d1, rfl, hr1, hr2, hra, hA1, hcap, hb1⟩)
        have hB1 : B ≤ w1.heap.size := Nat.le_trans hB hb1.size
        have kp1 := KpW.of hb1 hB
        obtain ⟨W2, hW2⟩ : ∃ W2, w1.alloc (.cells #[.slice A1 rs.length d1, .int .i64 (hid + plus)] 113) = W2 := ⟨_, rfl⟩
        have hba : Below w1.heap.size w1 W2 := by rw [← hW2]; exact below_alloc (Below.refl _ w1) _
        have hbx : W2.heap[w1.heap.size]? = some (Obj.cells #[.slice A1 rs.length d1, .int .i64 (hid + plus)] 113 (0, 0)) := by rw [← hW2]; exact heap_new _ _
        have kp2 := kp1.trans (KpW.of hba hB1)
        have hB2 : B ≤ W2.heap.size := Nat.le_trans hB1 hba.size
        have s1 := hr1.below hba
        have s2 := hr2.below hba
        have s3 := Kd.C_below hra hba
        have hj2 := hJ _ _ _ (hJ _ _ _ h0 hb1) hba
        rw [hW2]
        clear hr1 hr2 hra h0 hb1 hW2 hba kp1 hop ct
        generalize w1.heap.size = bx at hbx
        go_at_call 65
        refine (ih _ _ _ _ hsl s1 gl hB2 a1 hj2).mono ?_
        rintro e w3 (⟨rfl, hj3, kp3⟩ | ⟨rfl, hjx⟩)
        case inr =>
          simp only []
          go_at_K
          go_wp2
          go_ret
          exact .inr ⟨rfl, hjx⟩
        simp only []
        go_at_K
        rw [← HL.out] at hj3
        have hB3 : B ≤ w3.heap.size := Nat.le_trans hB2 kp3.b.size
        have s3 := RunesAt.kept s3 hA1 kp3
        have s1 := s1.kept kp3
        have s2 := s2.kept kp3
        have hbx := kp3.n _ _ _ (.inr rfl) hbx
        have kp3 := kp2.trans kp3
        by_cases c2 : lo < ahead + L + rs.length
        · have d2 : decide ((lo : Int) < (ahead : Int) + (L : Int) + (rs.length : Int)) = true := decide_eq_true (by omega)
          have a2l : At C (ahead + L) (Pc.cells ⟨rs, hid + plus, A1, d1⟩) := a2
          go_wp2_with (first
            | (go_at_call 58; refine (all_len2 s1 gl).mono ?_; rw [← HL.out]; rintro e w4 ⟨y1, y2, y3, y4, y5, rfl, hb4⟩; have hbx4 := (hb4.block _ (new_lt hbx)).trans hbx; have hz := cells2 hbx4; obtain ⟨z0, z1⟩ := hz; have kp4 := KpW.of hb4 hB3; have t2 := s2.below hb4; have t3 := Kd.C_below s3 hb4; have hj4 := hJ _ _ _ hj3 hb4; have hB4 := Nat.le_trans hB3 hb4.size)
            | (go_at_call 66; refine (hS (ahead + L) ⟨rs, hid + plus, A1, d1⟩ w4 hj4 c2 a2l t3 hA1 hcap g1 hhp hB4).mono ?_))
          rintro e w5 (⟨rfl, hj5, kp5⟩ | ⟨rfl, hjx⟩)
          case inr =>
            simp only []
            go_at_K
            go_wp2
            go_ret
            exact .inr ⟨rfl, hjx⟩
          simp only []
          go_at_K
          have hbx5 := kp5.n _ _ _ (.inr rfl) hbx4
          have hz := cells2 hbx5
          obtain ⟨z0, z1⟩ := hz
          have t2 := t2.kept kp5
          have hB5 := Nat.le_trans hB4 kp5.b.size
          have e0 : ((ahead : Int) + (L : Int) + (rs.length : Int)) = ((ahead + L + rs.length : Nat) : Int) := by omega
          have E0 := Lib.hid e0
          clear e0
          have kpA := kp3.trans (kp4.trans kp5)
          go_wp2_with (go_at_call 65; rw [E0.out]; refine (ih _ _ _ _ hsr t2 gr hB5 a3 hj5).mono ?_)
          rintro e w6 (⟨rfl, hj6, kp6⟩ | ⟨rfl, hjx⟩)
          case inr =>
            simp only []
            go_at_K
            go_wp2
            go_ret
            exact .inr ⟨rfl, hjx⟩
          simp only []
          go_at_K
          have hj7 : J (ahead + T) w6 := by rw [HLC.out, ← Nat.add_assoc, ← Nat.add_assoc]; exact hj6
          go_wp2
          go_ret
          exact .inl ⟨rfl, hj7, kpA.trans kp6⟩
        · have d2 : decide ((lo : Int) < (ahead : Int) + (L : Int) + (rs.length : Int)) = false := decide_eq_false (by omega)
          go_wp2_with (first
            | (go_at_call 58; refine (all_len2 s1 gl).mono ?_; rw [← HL.out]; rintro e w4 ⟨y1, y2, y3, y4, y5, rfl, hb4⟩; have hbx4 := (hb4.block _ (new_lt hbx)).trans hbx; have hz := cells2 hbx4; obtain ⟨z0, z1⟩ := hz; have kp4 := KpW.of hb4 hB3; have t2 := s2.below hb4; have t3 := Kd.C_below s3 hb4; have hj4 := hJ _ _ _ hj3 hb4; have hB4 := Nat.le_trans hB3 hb4.size))
          have hj5 : J (ahead + L + rs.length) w4 := hskip _ _ _ hj4 (by omega)
          have e0 : ((ahead : Int) + (L : Int) + (rs.length : Int)) = ((ahead + L + rs.length : Nat) : Int) := by omega
          have E0 := Lib.hid e0
          clear e0
          have kpA := kp3.trans kp4
          go_wp2_with (go_at_call 65; rw [E0.out]; refine (ih _ _ _ _ hsr t2 gr hB4 a3 hj5).mono ?_)
          rintro e w6 (⟨rfl, hj6, kp6⟩ | ⟨rfl, hjx⟩)
          case inr =>
            simp only []
            go_at_K
            go_wp2
            go_ret
            exact .inr ⟨rfl, hjx⟩
          simp only []
          go_at_K
          have hj7 : J (ahead + T) w6 := by rw [HLC.out, ← Nat.add_assoc, ← Nat.add_assoc]; exact hj6
          go_wp2
          go_ret
          exact .inl ⟨rfl, hj7, kpA.trans kp6⟩
end
end Go.Proofs.YteeigokkafcaaaaDoorRope
end
section
namespace Go.Proofs
open Go.Shelf
def Tryd.lays170_ren : Go.Shelf.Ren := ⟨fun | 170 => 62 | n => n, fun | 70 => 116 | 3 => 3 | 0 => 0 | 72 => 118 | 37 => 56 | 5 => 5 | n => n, fun | n => n⟩
theorem Tryd.lays170 : Go.Proofs.Lays.n170 Tryd.prog Tryd.lays170_ren := {
  mixed := by kernel_rfl
  f170 := Tryd.func62.trans (congrArg some (by kernel_rfl))
  t0 := Tryd.underlying0
  a0 := Tryd.isAgg0
  z0 := Tryd.sizeOf0
  v0 := Tryd.zeroValue0
  t3 := Tryd.underlying3
  a3 := Tryd.isAgg3
  z3 := Tryd.sizeOf3
  v3 := Tryd.zeroValue3
  t37 := Tryd.underlying56
  a37 := Tryd.isAgg56
  z37 := Tryd.sizeOf56
  v37 := Tryd.zeroValue56
  t70 := Tryd.underlying116
  a70 := Tryd.isAgg116
  z70 := Tryd.sizeOf116
  v70 := Tryd.zeroValue116
  t72 := Tryd.underlying118
  a72 := Tryd.isAgg118
  z72 := Tryd.sizeOf118
  v72 := Tryd.zeroValue118 }
def Tryd.lays169_ren : Go.Shelf.Ren := ⟨fun | 169 => 63 | n => n, fun | 70 => 116 | 9 => 9 | 0 => 0 | 72 => 118 | 37 => 56 | 127 => 154 | 3 => 3 | 5 => 5 | n => n, fun | n => n⟩
theorem Tryd.lays169 : Go.Proofs.Lays.n169 Tryd.prog Tryd.lays169_ren := {
  mixed := by kernel_rfl
  f169 := Tryd.func63.trans (congrArg some (by kernel_rfl))
  t0 := Tryd.underlying0
  a0 := Tryd.isAgg0
  z0 := Tryd.sizeOf0
  v0 := Tryd.zeroValue0
  t3 := Tryd.underlying3
  a3 := Tryd.isAgg3
  z3 := Tryd.sizeOf3
  v3 := Tryd.zeroValue3
  t9 := Tryd.underlying9
  a9 := Tryd.isAgg9
  z9 := Tryd.sizeOf9
  v9 := Tryd.zeroValue9
  t37 := Tryd.underlying56
  a37 := Tryd.isAgg56
  z37 := Tryd.sizeOf56
  v37 := Tryd.zeroValue56
  t70 := Tryd.underlying116
  a70 := Tryd.isAgg116
  z70 := Tryd.sizeOf116
  v70 := Tryd.zeroValue116
  t72 := Tryd.underlying118
  a72 := Tryd.isAgg118
  z72 := Tryd.sizeOf118
  v72 := Tryd.zeroValue118
  t127 := Tryd.underlying154
  a127 := Tryd.isAgg154
  z127 := Tryd.sizeOf154
  v127 := Tryd.zeroValue154 }
theorem Tryd.Builder_Extra_169 : Builder.Extra Tryd.prog Tryd.lays169_ren := {
  sizeBuilder := by kernel_rfl
  liesBuilder := by kernel_rfl
  t5 := Tryd.underlying5
  a5 := Tryd.isAgg5
  z5 := Tryd.sizeOf5
  v5 := Tryd.zeroValue5
  infoByte := by kernel_rfl
  cellsByte := by kernel_rfl
  sizeByte := by kernel_rfl
  neB5 := by decide }
open Go.RowKit in
theorem Tryd.Builder_Len_f (B b : Nat) (bs : List Value) (w : World) (h : Lib.IsBuilderF 118 5 B b bs w) :
    Calls Tryd.prog 62 #[.pointer (some ⟨b, 0, none⟩)] w fun e w' => e = .returned (.int .i64 bs.length) ∧ w' = w := Any.Builder_Len_f Tryd.lays170 B b bs w h
open Go.RowKit in
theorem Tryd.Builder_String_any_k (B b : Nat) (l : List UInt8) (w : World) (h : Lib.IsBuilderF 118 5 B b (Lib.byteCells l) w) (hBw : B ≤ w.heap.size) :
    Calls Tryd.prog 63 #[.pointer (some ⟨b, 0, none⟩)] w fun e w' => e = .returned (.string ⟨l.toArray⟩) ∧ (Lib.IsBuilderF 118 5 B b (Lib.byteCells l) w' ∧ Below B w w' ∧ Lib.OthersKept 5 (some b) w w') := Any.Builder_String_any_k Tryd.lays169 Tryd.Builder_Extra_169 B b l w h hBw
def Tryd.lays168_ren : Go.Shelf.Ren := ⟨fun | 168 => 67 | 240 => 99 | 242 => 100 | 276 => 127 | 278 => 128 | n => n, fun | 0 => 0 | 3 => 3 | 4 => 4 | 5 => 5 | 9 => 9 | 20 => 20 | 21 => 21 | 37 => 56 | 46 => 180 | 51 => 188 | 70 => 116 | 72 => 118 | 75 => 121 | 80 => 48 | 164 => 186 | n => n, fun | n => n⟩
theorem Tryd.lays168 : Go.Proofs.Lays.n168 Tryd.prog Tryd.lays168_ren := {
  mixed := by kernel_rfl
  f168 := Tryd.func67.trans (congrArg some (by kernel_rfl))
  f240 := Tryd.func99.trans (congrArg some (by kernel_rfl))
  f242 := Tryd.func100.trans (congrArg some (by kernel_rfl))
  f276 := Tryd.func127.trans (congrArg some (by kernel_rfl))
  f278 := Tryd.func128.trans (congrArg some (by kernel_rfl))
  t0 := Tryd.underlying0
  a0 := Tryd.isAgg0
  z0 := Tryd.sizeOf0
  v0 := Tryd.zeroValue0
  t3 := Tryd.underlying3
  a3 := Tryd.isAgg3
  z3 := Tryd.sizeOf3
  v3 := Tryd.zeroValue3
  t4 := Tryd.underlying4
  a4 := Tryd.isAgg4
  z4 := Tryd.sizeOf4
  v4 := Tryd.zeroValue4
  t5 := Tryd.underlying5
  a5 := Tryd.isAgg5
  z5 := Tryd.sizeOf5
  v5 := Tryd.zeroValue5
  t9 := Tryd.underlying9
  a9 := Tryd.isAgg9
  z9 := Tryd.sizeOf9
  v9 := Tryd.zeroValue9
  t20 := Tryd.underlying20
  a20 := Tryd.isAgg20
  z20 := Tryd.sizeOf20
  v20 := Tryd.zeroValue20
  t21 := Tryd.underlying21
  a21 := Tryd.isAgg21
  z21 := Tryd.sizeOf21
  v21 := Tryd.zeroValue21
  t37 := Tryd.underlying56
  a37 := Tryd.isAgg56
  z37 := Tryd.sizeOf56
  v37 := Tryd.zeroValue56
  t46 := Tryd.underlying180
  a46 := Tryd.isAgg180
  z46 := Tryd.sizeOf180
  v46 := Tryd.zeroValue180
  t51 := Tryd.underlying188
  a51 := Tryd.isAgg188
  z51 := Tryd.sizeOf188
  v51 := Tryd.zeroValue188
  t70 := Tryd.underlying116
  a70 := Tryd.isAgg116
  z70 := Tryd.sizeOf116
  v70 := Tryd.zeroValue116
  t72 := Tryd.underlying118
  a72 := Tryd.isAgg118
  z72 := Tryd.sizeOf118
  v72 := Tryd.zeroValue118
  t75 := Tryd.underlying121
  a75 := Tryd.isAgg121
  z75 := Tryd.sizeOf121
  v75 := Tryd.zeroValue121
  t164 := Tryd.underlying186
  a164 := Tryd.isAgg186
  z164 := Tryd.sizeOf186
  v164 := Tryd.zeroValue186
}
theorem Tryd.Builder_Extra_168 : Builder.Extra Tryd.prog Tryd.lays168_ren where
  sizeBuilder := by kernel_rfl
  liesBuilder := by kernel_rfl
  t5 := Tryd.underlying5
  a5 := Tryd.isAgg5
  z5 := Tryd.sizeOf5
  v5 := Tryd.zeroValue5
  infoByte := by kernel_rfl
  cellsByte := by kernel_rfl
  sizeByte := by kernel_rfl
  neB5 := by decide
open Go.RowKit in
theorem Tryd.Builder_WriteRune_k (B b : Nat) (bs : List Value) (r : Int) (hr0 : -2147483648 ≤ r) (hr1 : r ≤ 2147483647) (w : World) (h : Lib.IsBuilderF 118 5 B b bs w) (hlen : bs.length + 4 ≤ 140737488355328) (hBw : B ≤ w.heap.size) :
    Calls Tryd.prog 67 #[.pointer (some ⟨b, 0, none⟩), .int .i32 r] w fun e w' => e = .returned (.tuple #[.int .i64 (Lib.runeCells r).length, .nilIface]) ∧ (Lib.BuilderAtF 118 5 B b (.pointer (some ⟨b, 0, none⟩)) (bs ++ Lib.runeCells r) w' ∧ Below B w w' ∧ Lib.OthersKept 5 (some b) w w') := Any.Builder_WriteRune_k Tryd.lays168 Tryd.Builder_Extra_168 B b bs r hr0 hr1 w h hlen hBw
end Go.Proofs
end
section
namespace Go.Proofs.YteeigokkafcaaaaDoorRope
open Go.RowKit Go.Proofs.YteeigokkafcaaaaDoorW.PrintWords Go.Proofs.YteeigokkafcaaaaDoorW.PrintMore
set_option linter.unusedSimpArgs false
set_option linter.unusedVariables false
abbrev Bld (B b : Nat) (acc : List Int) (W : World) : Prop := Lib.IsBuilderF 118 5 B b (Lib.byteCells (utf acc)) W
theorem grown_of_below {W W' : World} (h : Below W.heap.size W W') : W.grownBy W' none := ⟨h.os, h.tape, h.output, h.size, fun k hk _ => h.block k hk⟩
theorem Bld.below {B b : Nat} {acc : List Int} {W W' : World} (h : Bld B b acc W) (hb : Below W.heap.size W W') : Bld B b acc W' := by
  refine h.imp ?_ ?_ <;>
    · rintro ⟨hB, v, hv, hown, hne⟩
      exact ⟨hB, v, (hb.block _ (new_lt hv)).trans hv, hown.kept (grown_of_below hb) (by cases hv : v.ownBlock <;> simp), hne⟩
theorem Bld.at {B b : Nat} {acc : List Int} {W : World} (h : Bld B b acc W) : B ≤ b ∧ ∃ c, W.heap[b]? = some (Obj.cells c 118 (0, 0)) := by
  rcases h with ⟨hB, v, hv, _⟩ | ⟨hB, v, hv, _⟩ <;> exact ⟨hB, _, hv⟩
structure KpB (B b : Nat) (W W' : World) : Prop where
  bl : Below B W W'
  o : Lib.OthersKept 5 (some b) W W'
theorem KpB.refl (B b : Nat) (W : World) : KpB B b W W := ⟨Below.refl _ _, Lib.OthersKept.refl _ _ _⟩
theorem KpB.trans {B b : Nat} {A W W' : World} (h : KpB B b A W) (k : KpB B b W W') : KpB B b A W' := ⟨h.bl.trans k.bl, h.o.trans k.o⟩
theorem KpB.of {B b : Nat} {W W' : World} (h : Below W.heap.size W W') (hB : B ≤ W.heap.size) : KpB B b W W' := ⟨h.mono hB, fun k o hk _ _ => (h.block k (new_lt hk)).trans hk⟩
theorem KpB.cells {B b : Nat} {W W' : World} (h : KpB B b W W') {k : Nat} {c : Array Value} {ty : Nat} {f : Nat × Nat} (hk : W.heap[k]? = some (Obj.cells c ty f)) (hty : ty ≠ 5) (hb : k ≠ b) : W'.heap[k]? = some (Obj.cells c ty f) :=
  h.o k _ hk (by simpa using hb) (fun c' f' e => by injection e with _ e _; exact hty e)
theorem KpB.kpw {B b : Nat} {W W' : World} (h : KpB B b W W') {c0 : Array Value} (hb : W.heap[b]? = some (Obj.cells c0 118 (0, 0))) : KpW B W W' :=
  ⟨h.bl, fun k c ty hty hk => h.cells hk (by rcases hty with rfl | rfl <;> decide) (by
    rintro rfl
    rw [hb] at hk
    injection hk with hk
    injection hk with _ hk _
    rcases hty with rfl | rfl <;> exact absurd hk (by decide))⟩
theorem utf_take {rs : List Int} {k : Nat} (hk : k < rs.length) : utf (rs.take (k + 1)) = utf (rs.take k) ++ Lib.encodeRune rs[k] := by
  rw [List.take_succ_eq_append_getElem hk, utf_append, utf_cons]
  simp [utf]
theorem byte_take {acc rs : List Int} {k : Nat} (hk : k < rs.length) : Lib.byteCells (utf (acc ++ rs.take k)) ++ Lib.runeCells rs[k] = Lib.byteCells (utf (acc ++ rs.take (k + 1))) := by
  rw [utf_append, utf_append, utf_take hk, Lib.byteCells_append, Lib.byteCells_append, Lib.byteCells_append, Lib.byteCells_encodeRune, List.append_assoc]
theorem byte_len (l : List Int) : (Lib.byteCells (utf l)).length ≤ 4 * l.length := by
  rw [Lib.byteCells_length]
  exact (utf_len l).2
set_option maxRecDepth 100000 in
set_option maxHeartbeats 8000000 in
theorem slice1_calls {B b : Nat} {acc rs : List Int} {A : Option Addr} {c : Nat} {W : World} (x : Int) (hr : RunesAt W A rs) (hA : ∀ ad, A = some ad → ad.block < B) (hrn : ∀ r ∈ rs, Rn r) (h : Bld B b acc W) (hB : B ≤ W.heap.size) (hl : acc.length + rs.length ≤ 2097152) :
    Calls Tryd.prog 71 #[.int .i64 x, .slice A rs.length c, .pointer (some ⟨b, 0, none⟩)] W fun e w' => e = .returned (.tuple #[]) ∧ Bld B b (acc ++ rs) w' ∧ KpB B b W w' := by
  have HRN := Lib.hid hrn
  have HL := Lib.hid hl
  have bl : (rs.length : Int) ≤ 2097152 := by omega
  clear hrn hl
  go_enter Tryd.func71, Tryd.ntmps71
  go_wp2
  go_loopw [9] (fun i wr => ∃ k : Nat, k ≤ rs.length ∧ i = .int .i64 (k : Int) ∧ Bld B b (acc ++ rs.take k) wr ∧ KpB B b W wr) (fun i _ => rs.length - (intOf i).toNat)
  case atStart => exact ⟨0, Nat.zero_le _, rfl, by simpa using h, KpB.refl _ _ _⟩
  case round =>
    obtain ⟨k, hkl, rfl, hI, hK⟩ := hrel
    by_cases hlt : k < rs.length
    · obtain ⟨ad, hAd, y0⟩ := Kd.at_int (hr.move (fun ad e _ => hK.bl.block _ (hA ad e))) (k : Int) (by omega) (by omega)
      subst hAd
      have e1 : rd rs (k : Int) = rs[k] := by
        show rs.getD (k : Int).toNat 0 = rs[k]
        rw [Int.toNat_natCast, List.getD_eq_getElem?_getD, List.getElem?_eq_getElem hlt]
        rfl
      rw [e1, Int.toNat_natCast] at y0
      have hR := HRN.out _ (List.getElem_mem hlt)
      have hbt := byte_take (acc := acc) hlt
      have hlen : (Lib.byteCells (utf (acc ++ rs.take k))).length + 4 ≤ 140737488355328 := by
        have := byte_len (acc ++ rs.take k)
        rw [List.length_append, List.length_take] at this
        have := HL.out
        omega
      obtain ⟨r, hr'⟩ : ∃ r, r = rs[k] := ⟨_, rfl⟩
      rw [← hr'] at y0 hR hbt
      have HBT := Lib.hid hbt
      have hBw : B ≤ wr.heap.size := Nat.le_trans hB hK.bl.size
      clear hbt hr' e1
      obtain ⟨r0, r1, r2⟩ := hR
      have r3 : -2147483648 ≤ r := by omega
      have r4 : r ≤ 2147483647 := by omega
      clear r0 r1 r2
      go_wp2_with (go_at_call 67; refine (Tryd.Builder_WriteRune_k B b _ r r3 r4 _ hI hlen hBw).mono ?_; rintro e w2 ⟨rfl, h2, b2, k2⟩)
      go_roundw
      case rel => exact ⟨k + 1, hlt, by go_num, by unfold Bld; rw [← HBT.out]; exact .inr h2, hK.trans ⟨b2, k2⟩⟩
      case measure => simp [intOf]; omega
    · obtain rfl : k = rs.length := by omega
      rw [List.take_length] at hI
      clear hlt hkl
      have d1 : decide (rs.length < rs.length) = false := decide_eq_false (Nat.lt_irrefl _)
      go_wp2
      go_end0
      exact ⟨rfl, hI, hK⟩
end Go.Proofs.YteeigokkafcaaaaDoorRope
end
section
namespace Go.Proofs.YteeigokkafcaaaaDoorRope
open Go.RowKit Go.Proofs.YteeigokkafcaaaaDoorW.PrintWords Go.Proofs.YteeigokkafcaaaaDoorW.PrintMore
set_option linter.unusedSimpArgs false
set_option linter.unusedVariables false
def vp (C : List (Int × Int)) (f : Nat) : Nat → List Nat
  | 0 => []
  | q + 1 => vp C f q ++ (if f ≤ q ∧ (C.getD q (0, 1)).2 = 0 then [q] else [])
theorem vp_mem {C : List (Int × Int)} {f : Nat} : ∀ {q p : Nat}, p ∈ vp C f q → f ≤ p ∧ p < q ∧ (C.getD p (0, 1)).2 = 0 := by
  intro q
  induction q with
  | zero => intro p h; simp [vp] at h
  | succ q ih =>
    intro p h
    rw [vp, List.mem_append] at h
    rcases h with h | h
    · have := ih h
      exact ⟨this.1, by omega, this.2.2⟩
    · by_cases c : f ≤ q ∧ (C.getD q (0, 1)).2 = 0
      · rw [if_pos c] at h
        obtain rfl : p = q := by simpa using h
        exact ⟨c.1, by omega, c.2⟩
      · rw [if_neg c] at h
        simp at h
theorem vp_none {C : List (Int × Int)} {f : Nat} : ∀ {q : Nat}, q ≤ f → vp C f q = [] := by
  intro q
  induction q with
  | zero => intro _; rfl
  | succ q ih =>
    intro h
    rw [vp, ih (by omega), if_neg (by omega)]
    rfl
theorem vp_more {C : List (Int × Int)} {f : Nat} (q : Nat) : ∀ n, ∃ Z, vp C f (q + n) = vp C f q ++ Z := by
  intro n
  induction n with
  | zero => exact ⟨[], by simp⟩
  | succ n ih =>
    obtain ⟨Z, hZ⟩ := ih
    exact ⟨Z ++ (if f ≤ q + n ∧ (C.getD (q + n) (0, 1)).2 = 0 then [q + n] else []), by rw [← Nat.add_assoc, vp, hZ, List.append_assoc]⟩
theorem At.get {C : List (Int × Int)} {a : Nat} {s : List (Int × Int)} (h : At C a s) {j : Nat} (hj : j < s.length) : C[a + j]? = some s[j] := by
  obtain ⟨X, Y, rfl, rfl⟩ := h
  rw [List.append_assoc, List.getElem?_append_right (by omega), Nat.add_sub_cancel_left, List.getElem?_append_left hj, List.getElem?_eq_getElem hj]
theorem vp_step {C : List (Int × Int)} {f a : Nat} {rs : List Int} {hid : Int} (h : At C a (rs.map (fun c => (c, hid)))) : ∀ j, j ≤ rs.length → vp C f (a + j) = vp C f a ++ (if hid = 0 then List.range' (a + (f - a)) (j - (f - a)) else []) := by
  intro j
  induction j with
  | zero => intro _; by_cases c : hid = 0 <;> simp [c]
  | succ j ih =>
    intro hj
    have hg := h.get (j := j) (by rw [List.length_map]; omega)
    rw [List.getElem_map] at hg
    have hd : (C.getD (a + j) (0, 1)).2 = hid := by rw [List.getD_eq_getElem?_getD, hg]; rfl
    rw [← Nat.add_assoc, vp, ih (by omega), hd, List.append_assoc]
    congr 1
    by_cases c : hid = 0
    · rw [if_pos c, if_pos c]
      by_cases d : f - a ≤ j
      · rw [if_pos ⟨by omega, c⟩, show j + 1 - (f - a) = (j - (f - a)) + 1 by omega, List.range'_concat]
        congr 2
        omega
      · rw [if_neg (by omega), show j + 1 - (f - a) = 0 by omega, show j - (f - a) = 0 by omega]
        rfl
    · rw [if_neg c, if_neg c, if_neg (fun e => c e.2)]
      rfl
theorem vp_split {C : List (Int × Int)} (f : Nat) : ∀ n, vp C 0 (f + n) = vp C 0 f ++ vp C f (f + n) := by
  intro n
  induction n with
  | zero => rw [Nat.add_zero, vp_none (Nat.le_refl f), List.append_nil]
  | succ n ih =>
    rw [← Nat.add_assoc, vp, ih, vp, List.append_assoc]
    congr 2
    by_cases c : (C.getD (f + n) (0, 1)).2 = 0
    · rw [if_pos ⟨by omega, c⟩, if_pos ⟨by omega, c⟩]
    · rw [if_neg (fun e => c e.2), if_neg (fun e => c e.2)]
theorem vp_len {C : List (Int × Int)} : ∀ q, q ≤ C.length → (vp C 0 q).length = vis (C.take q) := by
  intro q
  induction q with
  | zero => intro _; simp [vp, vis]
  | succ q ih =>
    intro hq
    rw [vp, List.length_append, ih (by omega), List.take_succ_eq_append_getElem (by omega), vis_append]
    congr 1
    have hd : C.getD q (0, 1) = C[q] := by rw [List.getD_eq_getElem?_getD, List.getElem?_eq_getElem (by omega)]; rfl
    rw [hd]
    by_cases c : C[q].2 = 0
    · rw [if_pos ⟨by omega, c⟩]
      simp [vis, c]
    · rw [if_neg (fun e => c e.2)]
      simp [vis, c]
def visR (C : List (Int × Int)) : List Int := (C.filter (fun c => c.2 == 0)).map (·.1)
def rnAt (C : List (Int × Int)) (p : Nat) : Int := (C.getD p (0, 0)).1
theorem vp_runes {C : List (Int × Int)} : ∀ q, q ≤ C.length → (vp C 0 q).map (rnAt C) = visR (C.take q) := by
  intro q
  induction q with
  | zero => intro _; simp [vp, visR]
  | succ q ih =>
    intro hq
    have hd : C.getD q (0, 1) = C[q] := by rw [List.getD_eq_getElem?_getD, List.getElem?_eq_getElem (by omega)]; rfl
    have hr : rnAt C q = C[q].1 := by rw [rnAt, List.getD_eq_getElem?_getD, List.getElem?_eq_getElem (by omega)]; rfl
    rw [vp, List.map_append, ih (by omega), List.take_succ_eq_append_getElem (by omega), hd]
    unfold visR
    rw [List.filter_append, List.map_append]
    congr 1
    by_cases c : C[q].2 = 0
    · rw [if_pos ⟨by omega, c⟩]
      simp [c, hr]
    · rw [if_neg (fun e => c e.2)]
      simp [c]
theorem vp_from {C : List (Int × Int)} {lo : Nat} (h : lo ≤ vis C) : vp C (nth0 C lo) C.length = (vp C 0 C.length).drop lo := by
  have h1 := nth0_le C lo
  have h2 := vp_split (C := C) (nth0 C lo) (C.length - nth0 C lo)
  rw [show nth0 C lo + (C.length - nth0 C lo) = C.length by omega] at h2
  have h3 := vp_len (C := C) (nth0 C lo) h1
  rw [vis_nth0 _ _ h] at h3
  rw [h2]
  exact (List.drop_left' h3).symm
theorem vp_from_runes {C : List (Int × Int)} {lo : Nat} (h : lo ≤ vis C) (m : Nat) : ((vp C (nth0 C lo) C.length).take m).map (rnAt C) = ((visR C).drop lo).take m := by
  rw [vp_from h, List.map_take, List.map_drop, vp_runes _ (Nat.le_refl _), List.take_length]
theorem visR_len (C : List (Int × Int)) : (visR C).length = vis C := by simp [visR, vis]
end Go.Proofs.YteeigokkafcaaaaDoorRope
end
section
namespace Go.Proofs.YteeigokkafcaaaaDoorRope
open Go.RowKit Go.Proofs.YteeigokkafcaaaaDoorW.PrintWords Go.Proofs.YteeigokkafcaaaaDoorW.PrintMore
set_option linter.unusedSimpArgs false
set_option linter.unusedVariables false
attribute [local go_sem] max2_int min2_int
structure KpI (B : Nat) (W W' : World) : Prop where
  bl : Below B W W'
  n : ∀ (k : Nat) (c : Array Value) (ty : Nat), ty = 153 ∨ ty = 113 ∨ ty = 3 ∨ ty = 128 → W.heap[k]? = some (Obj.cells c ty (0, 0)) → W'.heap[k]? = some (Obj.cells c ty (0, 0))
theorem KpB.kpi {B b : Nat} {W W' : World} (h : KpB B b W W') {c0 : Array Value} (hb : W.heap[b]? = some (Obj.cells c0 118 (0, 0))) : KpI B W W' :=
  ⟨h.bl, fun k c ty hty hk => h.cells hk (by rcases hty with rfl | rfl | rfl | rfl <;> decide) (by
    rintro rfl
    rw [hb] at hk
    injection hk with hk
    injection hk with _ hk _
    rcases hty with rfl | rfl | rfl | rfl <;> exact absurd hk (by decide))⟩
theorem KpI.kpw {B : Nat} {W W' : World} (h : KpI B W W') : KpW B W W' := ⟨h.bl, fun k c ty hty hk => h.n k c ty (hty.elim .inl (fun e => .inr (.inl e))) hk⟩
theorem cells1k {W : World} {g k : Nat} {a : Value} (h : W.heap[g]? = some (.cells #[a] k (0, 0))) : W.cell? ⟨g, 0, none⟩ = some a ∧ W.frozen? ⟨g, 0, none⟩ = false := by
  simp [World.cell?, World.frozen?, h]
theorem set1k {W : World} {g k : Nat} {a v : Value} (h : W.heap[g]? = some (.cells #[a] k (0, 0))) : (W.setCell ⟨g, 0, none⟩ v).heap[g]? = some (.cells #[v] k (0, 0)) := by
  simp [World.setCell, Array.getElem?_modify, h]
theorem set_other {W : World} {g k : Nat} {v : Value} {o : Obj} (h : W.heap[k]? = some o) (hne : k ≠ g) : (W.setCell ⟨g, 0, none⟩ v).heap[k]? = some o := by
  rw [Below.heap_setCell _ _ _ _ (fun e => hne e)]
  exact h
theorem ty_ne {W : World} {k g : Nat} {c c' : Array Value} {t t' : Nat} (h : W.heap[k]? = some (Obj.cells c t (0, 0))) (h' : W.heap[g]? = some (Obj.cells c' t' (0, 0))) (ht : t ≠ t') : k ≠ g := by
  rintro rfl
  rw [h] at h'
  injection h' with h'
  injection h' with _ h' _
  exact ht h'
theorem KpW.set {B : Nat} {W : World} {g : Nat} {c : Array Value} {v : Value} (hB : B ≤ g) (h : W.heap[g]? = some (Obj.cells c 3 (0, 0))) : KpW B W (W.setCell ⟨g, 0, none⟩ v) :=
  ⟨(Below.refl B W).setCell (p := ⟨g, 0, none⟩) hB v, fun k c' ty hty hk => set_other hk (ty_ne hk h (by rcases hty with rfl | rfl <;> decide))⟩
structure Btw (B f m F L G : Nat) (fv : Value) (w : World) (In : List Nat → World → Prop) (ps : List Nat) (W : World) : Prop where
  i : In ps W
  len : ps.length < m
  hF : W.heap[F]? = some (.cells #[.int .i64 (f : Int)] 3 (0, 0))
  hL : W.heap[L]? = some (.cells #[.int .i64 ((m - ps.length : Nat) : Int)] 3 (0, 0))
  hG : W.heap[G]? = some (.cells #[fv] 128 (0, 0))
  b : Below B w W
structure Inner (B g : Nat) (C : List (Int × Int)) (cap : Value) (In : List Nat → World → Prop) : Prop where
  below : ∀ ps W W', In ps W → Below W.heap.size W W' → In ps W'
  set : ∀ ps (W : World) (k : Nat) (c : Array Value) (v : Value), In ps W → W.heap[k]? = some (Obj.cells c 3 (0, 0)) → In ps (W.setCell ⟨k, 0, none⟩ v)
  call : ∀ (ps : List Nat) (x : Int) (a : Nat) (rs : List Int) (A : Option Addr) (c : Nat) (W : World), x = (a : Int) → In ps W → (∀ p ∈ ps, p < a) → (∀ j (h : j < rs.length), C[a + j]? = some (rs[j], 0)) → 0 < rs.length → ps.length + rs.length ≤ 2097152 → RunesAt W A rs → (∀ ad, A = some ad → ad.block < B) → B ≤ W.heap.size → rs.length ≤ c →
    Calls Tryd.prog g #[.int .i64 x, .slice A rs.length c, cap] W fun e w' => e = .returned (.tuple #[]) ∧ In (ps ++ List.range' a rs.length) w' ∧ KpI B W w'
section
variable {B : Nat} {C : List (Int × Int)} {cap : Value} {In : List Nat → World → Prop} {w : World} {f m F L G : Nat}
set_option maxRecDepth 100000 in
set_option maxHeartbeats 16000000 in
theorem see101_71 (hC : C.length ≤ 1048576) (hI : Inner B 71 C cap In) (hF : B ≤ F) (hL : B ≤ L) (hLF : L ≠ F) (hm : m ≤ 1048576) (at_ : Nat) (p : Pc) (W : World) {ps : List Nat} (hps : ps = vp C f at_) (hj : Btw B f m F L G (.func (.func 71) #[] #[cap]) w In ps W) (hlo : f < at_ + p.rs.length) (ha : At C at_ p.cells) (hr : RunesAt W p.A p.rs) (hA : ∀ ad, p.A = some ad → ad.block < B) (hc : p.rs.length ≤ p.c) (hne : p.rs ≠ []) (hh : 0 ≤ p.hid) (hB : B ≤ W.heap.size) :
    Calls Tryd.prog 101 #[.int .i64 (at_ : Int), .agg #[.slice p.A p.rs.length p.c, .int .i64 p.hid], .pointer (some ⟨F, 0, none⟩), .pointer (some ⟨L, 0, none⟩), .pointer (some ⟨G, 0, none⟩)] W fun e w' => (e = .returned (.bool true) ∧ Btw B f m F L G (.func (.func 71) #[] #[cap]) w In (vp C f (at_ + p.rs.length)) w' ∧ KpW B W w') ∨ (e = .returned (.bool false) ∧ In ((vp C f C.length).take m) w' ∧ Below B w w' ∧ w'.heap[F]? = some (.cells #[.int .i64 (f : Int)] 3 (0, 0))) := by
  obtain ⟨rs, hid, A, c⟩ := p
  dsimp only at *
  have hle := ha.le
  rw [show (Pc.cells ⟨rs, hid, A, c⟩).length = rs.length from by simp [Pc.cells]] at hle
  have hstep := vp_step (f := f) (show At C at_ (rs.map (fun c => (c, hid))) from ha) rs.length (Nat.le_refl _)
  obtain ⟨hin, hlen, bF, bL, bG, bw⟩ := hj
  by_cases c1 : hid = 0
  · have d1 : decide ((0 : Int) < hid) = false := decide_eq_false (by omega)
    rw [if_pos c1] at hstep
    subst c1
    have hz : 0 < rs.length := List.length_pos_iff.2 hne
    obtain ⟨ad, hAd⟩ : ∃ ad, A = some ad := by
      obtain ⟨ad, e, _⟩ := hr.2.2 hz
      exact ⟨ad, e⟩
    subst hAd
    obtain ⟨cut, hcut⟩ : ∃ cut, cut = f - at_ := ⟨_, rfl⟩
    rw [← hcut] at hstep
    obtain ⟨n1, hn1⟩ : ∃ n1, rs.length - cut = n1 := ⟨_, rfl⟩
    obtain ⟨lf, hlf⟩ : ∃ lf, lf = m - ps.length := ⟨_, rfl⟩
    rw [← hlf] at bL
    obtain ⟨j, hj⟩ : ∃ j, j = min n1 lf := ⟨_, rfl⟩
    obtain ⟨x, hx⟩ : ∃ x : Int, (f : Int) - (at_ : Int) = x := ⟨_, rfl⟩
    have wx : IntKind.i64.wrap ((f : Int) - (at_ : Int)) = x := ((IntWalk.i64_left _).trans (w64 (by omega) (by omega))).trans hx
    have WX := Lib.hid wx
    clear wx
    have ex : max 0 x = (cut : Int) := by omega
    have ej : min (lf : Int) (n1 : Int) = (j : Int) := by omega
    have EX := Lib.hid ex
    have EJ := Lib.hid ej
    clear ex ej
    have hck : (c = cut) = False := by simp; omega
    have hck2 : (c == cut) = false := by simp; omega
    have kc : (cut : Int) ≤ (c : Int) := by omega
    have kl : (cut : Int) ≤ (rs.length : Int) := by omega
    have jl : (j : Int) ≤ (n1 : Int) := by omega
    have j0 : 0 < j := by omega
    have jl2 : (j : Int) ≤ ((c - cut : Nat) : Int) := by omega
    have b1 : (at_ : Int) + (cut : Int) ≤ 1048576 := by omega
    have hdr : RunesAt W (some (ad.add cut)) (rs.drop cut) := by
      have hd := Kd.C_drop hr (m := cut) (c := c) (by omega) hc
      rw [if_neg (by omega), show cut * (Kd.int IntKind.i32).sz = cut from Nat.mul_one cut] at hd
      exact hd
    have hdt : RunesAt W (some (ad.add cut)) ((rs.drop cut).take j) := Kd.C_take hdr (by rw [List.length_drop]; omega)
    have hdl : ((rs.drop cut).take j).length = j := by rw [List.length_take, List.length_drop]; omega
    obtain ⟨rj, hrj⟩ : ∃ rj, rj = (rs.drop cut).take j := ⟨_, rfl⟩
    rw [← hrj] at hdt hdl
    have hcell : ∀ i (h : i < rj.length), C[at_ + cut + i]? = some (rj[i], 0) := by
      intro i h
      have h2 := ha.get (j := cut + i) (by simp [Pc.cells]; omega)
      rw [← Nat.add_assoc] at h2
      rw [h2]
      simp [Pc.cells, hrj]
    have hlow : ∀ p ∈ ps, p < at_ + cut := by
      intro p hp
      rw [hps] at hp
      have := (vp_mem hp).2.1
      omega
    have hAc : ∀ ad', some (ad.add cut) = some ad' → ad'.block < B := by
      intro ad' e
      injection e with e
      rw [← e, add_block]
      exact hA ad rfl
    obtain ⟨W1, hW1⟩ : ∃ W1, W.alloc (.cells #[.slice (some ad) rs.length c, .int .i64 0] 113) = W1 := ⟨_, rfl⟩
    have hb1 : Below W.heap.size W W1 := by rw [← hW1]; exact below_alloc (Below.refl _ W) _
    have z0 : W1.cell? ⟨W.heap.size, 0, none⟩ = some (.slice (some ad) rs.length c) := by rw [← hW1]; simp
    have z1 : W1.cell? ⟨W.heap.size, 1, none⟩ = some (.int .i64 0) := by rw [← hW1]; simp
    have q1 := (hb1.block _ (new_lt bF)).trans bF
    have q2 := (hb1.block _ (new_lt bL)).trans bL
    have q3 := (hb1.block _ (new_lt bG)).trans bG
    obtain ⟨y1, _⟩ := cells1k q1
    obtain ⟨y2, _⟩ := cells1k q2
    obtain ⟨y3, _⟩ := cells1k q3
    have hB1 := Nat.le_trans hB hb1.size
    have hcall := hI.call ps ((at_ : Int) + (cut : Int)) (at_ + cut) rj (some (ad.add cut)) (c - cut) W1 (by omega) (hI.below _ _ _ hin hb1) hlow hcell (by omega) (by omega) (Kd.C_below hdt hb1) hAc hB1 (by omega)
    rw [hdl] at hcall
    have wz : IntKind.i64.wrap ((lf : Int) - (j : Int)) = ((lf - j : Nat) : Int) := ((IntWalk.i64_left _).trans (w64 (by omega) (by omega))).trans (by omega)
    have HX := Lib.hid hx
    have HST := Lib.hid hstep
    have HJ := Lib.hid hj
    have HLF := Lib.hid hlf
    have HN1 := Lib.hid (show rs.length - cut = n1 from hn1)
    have HCUT := Lib.hid hcut
    have HLE := Lib.hid hle
    have HLEN := Lib.hid hlen
    have HM := Lib.hid hm
    have wx := WX.out
    have ex := EX.out
    have ej := EJ.out
    clear hx hstep hj hlf hcut hle hlen hm hin hdr hdt hdl hcell hlow hr hlo ha
    go_enter Tryd.func101, Tryd.ntmps101
    go_wp2_with (go_at_call 71; refine hcall.mono ?_; rintro e w5 ⟨rfl, hin5, k5⟩; have bL5 := k5.n _ _ _ (.inr (.inr (.inl rfl))) q2; have hy5 := cells1k bL5; obtain ⟨y5, f5⟩ := hy5; have hs6 := set1k (v := .int .i64 ((lf - j : Nat) : Int)) bL5; have hy6 := cells1k hs6; obtain ⟨y6, _⟩ := hy6; have lL := new_lt bL5)
    go_ret
    have bF5 := k5.n _ _ _ (.inr (.inr (.inl rfl))) q1
    have bG5 := k5.n _ _ _ (.inr (.inr (.inr rfl))) q3
    have hin6 := hI.set _ _ L _ (.int .i64 ((lf - j : Nat) : Int)) hin5 bL5
    have hb6 : Below B w (w5.setCell ⟨L, 0, none⟩ (.int .i64 ((lf - j : Nat) : Int))) := ((bw.trans (hb1.mono hB)).trans k5.bl).setCell (p := ⟨L, 0, none⟩) hL _
    have hkw : KpW B W (w5.setCell ⟨L, 0, none⟩ (.int .i64 ((lf - j : Nat) : Int))) := ((KpW.of hb1 hB).trans k5.kpw).trans (KpW.set hL bL5)
    have a1 := HJ.out
    have a2 := HLF.out
    have a3 := HN1.out
    have a4 := HLEN.out
    have a5 := HLE.out
    have a6 := HST.out
    clear wx ex ej wz
    by_cases c2 : n1 < lf
    · have ed : decide (0 < lf - j) = true := decide_eq_true (by omega)
      have ej : j = n1 := by omega
      rw [ed]
      rw [a3, ← hps] at a6
      rw [ej] at hin6 hs6 hb6 hkw ⊢
      rw [a6]
      refine .inl ⟨rfl, ⟨hin6, by rw [List.length_append, List.length_range']; omega, set_other bF5 (fun e => hLF e.symm), ?_, set_other bG5 (ty_ne bG5 bL5 (by decide)), hb6⟩, hkw⟩
      rw [hs6, List.length_append, List.length_range', show m - (ps.length + n1) = lf - n1 by omega]
    · have ed : decide (0 < lf - j) = false := decide_eq_false (by omega)
      have ej : j = lf := by omega
      rw [ed]
      refine .inr ⟨rfl, ?_, hb6, set_other bF5 (fun e => hLF e.symm)⟩
      obtain ⟨Z, hZ⟩ := vp_more (C := C) (f := f) (at_ + rs.length) (C.length - (at_ + rs.length))
      rw [show at_ + rs.length + (C.length - (at_ + rs.length)) = C.length by omega, a6, ← hps, a3] at hZ
      have ht : (vp C f C.length).take m = ps ++ List.range' (at_ + cut) j := by
        rw [hZ, List.append_assoc, List.take_append, List.take_of_length_le (by omega), List.take_append, List.length_range', show m - ps.length - n1 = 0 by omega, List.take_zero, List.append_nil, ← a2, ej]
        congr 1
        rw [show n1 = lf + (n1 - lf) by omega, List.range'_append_1.symm, List.take_left' (by simp)]
      rw [ht]
      exact hin6
  · have d1 : decide ((0 : Int) < hid) = true := decide_eq_true (by omega)
    rw [if_neg c1, List.append_nil] at hstep
    have hb1 : Below W.heap.size W (W.alloc (.cells #[.slice A rs.length c, .int .i64 hid] 113)) := below_alloc (Below.refl _ W) _
    have hin1 := hI.below _ _ _ hin hb1
    have q1 := (hb1.block _ (new_lt bF)).trans bF
    have q2 := (hb1.block _ (new_lt bL)).trans bL
    have q3 := (hb1.block _ (new_lt bG)).trans bG
    rw [hstep, ← hps]
    go_enter Tryd.func101, Tryd.ntmps101
    go_wp2
    go_ret
    exact .inl ⟨rfl, ⟨hin1, hlen, q1, q2, q3, bw.trans (hb1.mono hB)⟩, KpW.of hb1 hB⟩
set_option maxRecDepth 100000 in
set_option maxHeartbeats 16000000 in
theorem between_71 {K0 : Nat → Prop} {W : World} {b : Nat} {t : Tree} {p0 : Option Addr} {lo hi : Nat} (h : RopeAt K0 W b t) (hsz : t.cells.length ≤ 1048576) (hlo : lo < hi) (hhi : hi ≤ vis t.cells) (hv : W.heap[b]? = some (.cells #[.pointer p0] 108 (0, 0))) (ht : Rpo (fun k => k < B) W t (.pointer p0)) (hg : t.Good 0) (hb : b < B) (hB : B ≤ W.heap.size) (hI : Inner B 71 t.cells cap In) (h0 : In [] W) :
    Calls Tryd.prog 70 #[.pointer (some ⟨b, 0, none⟩), .int .i64 (lo : Int), .int .i64 (hi : Int), .func (.func 71) #[] #[cap]] W fun e w' => e = .returned (.tuple #[]) ∧ In ((vp t.cells (nth0 t.cells lo) t.cells.length).take (hi - lo)) w' ∧ Below B W w' := by
  have hvl := vis_le t.cells
  obtain ⟨f, hf⟩ : ∃ f, f = nth0 t.cells lo := ⟨_, rfl⟩
  have hfl : f ≤ t.cells.length := by rw [hf]; exact nth0_le _ _
  have htot := totalOf_yes h hsz lo (by omega)
  have hvplen : hi - lo ≤ (vp t.cells f t.cells.length).length := by
    rw [hf, vp_from (by omega), List.length_drop, vp_len _ (Nat.le_refl _), List.take_length]
    omega
  have d0 : ((lo : Int) == (hi : Int)) = false := beq_eq_false_iff_ne.mpr (by omega)
  have d1 : (lo == hi) = false := beq_eq_false_iff_ne.mpr (by omega)
  have b1 : (hi : Int) ≤ 1048576 := by omega
  have b2 : (lo : Int) ≤ 1048576 := by omega
  have b3 : (f : Int) ≤ 1048576 := by omega
  have wz : IntKind.i64.wrap ((hi : Int) - (lo : Int)) = ((hi - lo : Nat) : Int) := ((IntWalk.i64_left _).trans (w64 (by omega) (by omega))).trans (by omega)
  have hHT := fun W' (hW : Below W.heap.size W W') => (totalOf_yes (h.below hW) hsz lo (by omega : lo < vis t.cells))
  rw [← hf] at hHT ⊢
  have HHT := Lib.hid hHT
  clear hHT
  obtain ⟨m, hm⟩ : ∃ m, m = hi - lo := ⟨_, rfl⟩
  rw [← hm] at hvplen wz ⊢
  have hm0 : 0 < m := by omega
  have hm1 : m ≤ 1048576 := by omega
  clear hm hf hvl hlo hhi htot h
  go_enter Tryd.func70, Tryd.ntmps70
  have hb1 : Below W.heap.size W (W.alloc (.cells #[.func (.func 71) #[] #[cap]] 128)) := below_alloc (Below.refl _ W) _
  have bG : (W.alloc (.cells #[.func (.func 71) #[] #[cap]] 128)).heap[W.heap.size]? = some (Obj.cells #[.func (.func 71) #[] #[cap]] 128 (0, 0)) := heap_new _ _
  go_wp2_with (go_at_call 21; refine (HHT.out _ hb1).mono ?_; rintro e w2 ⟨rfl, hb2⟩)
  obtain ⟨W4, hW4⟩ : ∃ W4, (w2.alloc (.cells #[.int .i64 (f : Int)] 3)).alloc (.cells #[.int .i64 (m : Int)] 3) = W4 := ⟨_, rfl⟩
  have hb4 : Below w2.heap.size w2 W4 := by rw [← hW4]; exact below_alloc (below_alloc (Below.refl _ w2) _) _
  have bF : W4.heap[w2.heap.size]? = some (Obj.cells #[.int .i64 (f : Int)] 3 (0, 0)) := by
    rw [← hW4]
    exact ((below_alloc (Below.refl _ _) _).block _ (by simp)).trans (heap_new _ _)
  have bL : W4.heap[w2.heap.size + 1]? = some (Obj.cells #[.int .i64 (m : Int)] 3 (0, 0)) := by
    rw [← hW4]
    have := heap_new (w2.alloc (.cells #[.int .i64 (f : Int)] 3)) (.cells #[.int .i64 (m : Int)] 3)
    rwa [World.size_alloc] at this
  have bG4 := (hb4.block _ (new_lt ((hb2.block _ (new_lt bG)).trans bG))).trans ((hb2.block _ (new_lt bG)).trans bG)
  have hbW : Below W.heap.size W W4 := hb1.trans ((hb2.trans (hb4.mono hb2.size)).mono hb1.size)
  have hz1 := hb1.size
  have hz2 := hb2.size
  simp only [World.size_alloc] at hz2
  have rW := hbW.block _ (new_lt hv)
  have hv4 := rW.trans hv
  obtain ⟨y0, _⟩ := cells1k hv4
  obtain ⟨y1, _⟩ := cells1k bF
  rw [hW4]
  have hB2 : B ≤ w2.heap.size := by omega
  have hwk : ∀ W5, Below W4.heap.size W4 W5 → Calls Tryd.prog 65 #[.pointer p0, .int .i64 0, .int .i64 (f : Int), .func (.func 101) #[] #[.pointer (some ⟨w2.heap.size, 0, none⟩), .pointer (some ⟨w2.heap.size + 1, 0, none⟩), .pointer (some ⟨W.heap.size, 0, none⟩)]] W5 fun e w' => e = .returned (.bool false) ∧ In ((vp t.cells f t.cells.length).take m) w' ∧ Below B W w' ∧ w'.heap[w2.heap.size]? = some (.cells #[.int .i64 (f : Int)] 3 (0, 0)) := by
    intro W5 h5
    have hbW5 : Below W.heap.size W W5 := hbW.trans (h5.mono hbW.size)
    have hB5 : B ≤ W5.heap.size := Nat.le_trans hB hbW5.size
    have hi0 : Btw B f m w2.heap.size (w2.heap.size + 1) W.heap.size (.func (.func 71) #[] #[cap]) W In (vp t.cells f 0) W5 :=
      ⟨hI.below _ _ _ h0 hbW5, by simpa [vp] using hm0, (h5.block _ (new_lt bF)).trans bF, (h5.block _ (new_lt bL)).trans bL, (h5.block _ (new_lt bG4)).trans bG4, hbW5.mono hB⟩
    have := walk_101 (B := B) (C := t.cells) (lo := f) (J := fun q W' => Btw B f m w2.heap.size (w2.heap.size + 1) W.heap.size (.func (.func 71) #[] #[cap]) W In (vp t.cells f q) W') (Jx := fun w' => In ((vp t.cells f t.cells.length).take m) w' ∧ Below B W w' ∧ w'.heap[w2.heap.size]? = some (.cells #[.int .i64 (f : Int)] 3 (0, 0))) hsz (by omega)
      (fun at_ p W' hj hlo ha hr hA hc hne hh hB' => see101_71 (w := W) (F := w2.heap.size) (L := w2.heap.size + 1) (G := W.heap.size) hsz hI hB2 (Nat.le_trans hB2 (Nat.le_succ _)) (Nat.succ_ne_self _) hm1 at_ p W' rfl hj hlo ha hr hA hc hne hh hB')
      (fun at_ n W' hj hn => by rw [vp_none hn]; rw [vp_none (by omega)] at hj; exact hj)
      (fun at_ W' W'' hj hb' => ⟨hI.below _ _ _ hj.i hb', hj.len, (hb'.block _ (new_lt hj.hF)).trans hj.hF, (hb'.block _ (new_lt hj.hL)).trans hj.hL, (hb'.block _ (new_lt hj.hG)).trans hj.hG, hj.b.trans (hb'.mono (Nat.le_trans hB hj.b.size))⟩)
      t.size t (.pointer p0) W5 0 (Nat.le_refl _) (ht.below hbW5) hg hB5 (At.all _) hi0
    refine Calls.mono this ?_
    rintro e w' (⟨_, hj, _⟩ | h)
    · rw [Nat.zero_add] at hj
      exact absurd hj.len (by omega)
    · exact h
  have HWK := Lib.hid hwk
  clear hwk
  have r0 := y0
  have r1 := y1
  go_region_held3 (fun W' => W'.cell? ⟨b, 0, none⟩ = some (.pointer p0) ∧ W'.cell? ⟨w2.heap.size, 0, none⟩ = some (.int .i64 (f : Int)))
    (first | exact ⟨y0, y1⟩ | exact ⟨r0, r1⟩ | fail)
    (first | (go_at_call 65; refine (HWK.out _ (pw_below_drewN (Below.refl _ W4) _)).mono ?_; rintro e w6 ⟨rfl, h6, hb6, hF6⟩; have r0 := (cells1k ((hb6.block _ hb).trans hv)).1; have r1 := (cells1k hF6).1) | fail)
  go_end0
  exact ⟨rfl, h6, hb6⟩
end
section
variable {B : Nat} {C : List (Int × Int)} {cap : Value} {In : List Nat → World → Prop} {w : World} {f m F L G : Nat}
end
set_option maxRecDepth 100000 in
set_option maxHeartbeats 4000000 in
theorem between_none (W : World) (b lo : Nat) (g : Nat) (cap : Value) : Calls Tryd.prog 70 #[.pointer (some ⟨b, 0, none⟩), .int .i64 (lo : Int), .int .i64 (lo : Int), .func (.func g) #[] #[cap]] W fun e w' => e = .returned (.tuple #[]) ∧ Below W.heap.size W w' := by
  have d1 : (lo == lo) = true := beq_self_eq_true lo
  go_enter Tryd.func70, Tryd.ntmps70
  go_wp2
  refine bodyPost_ret (results_none rfl _ _ _) rfl ?_
  exact ⟨rfl, below_alloc (Below.refl _ W) _⟩
end Go.Proofs.YteeigokkafcaaaaDoorRope
end
section
namespace Go.Proofs.YteeigokkafcaaaaDoorRope
open Go.RowKit Go.Proofs.YteeigokkafcaaaaDoorW.PrintWords Go.Proofs.YteeigokkafcaaaaDoorW.PrintMore
set_option linter.unusedSimpArgs false
set_option linter.unusedVariables false
theorem Rpo.mono {M M' : Nat → Prop} (hM : ∀ k, M k → M' k) {W : World} {t : Tree} : ∀ {v : Value}, Rpo M W t v → Rpo M' W t v := by
  induction t with
  | nil => intro v h; exact h
  | node l rs hid r plus ihl ihr =>
    rintro v ⟨a, vl, vr, A, c, rfl, hh, hc, hr, hA, h1, h2⟩
    exact ⟨a, vl, vr, A, c, rfl, hh, hc, hr, fun ad e => hM _ (hA ad e), ihl h1, ihr h2⟩
theorem Bld.set {B b : Nat} {acc : List Int} {W : World} (h : Bld B b acc W) {k : Nat} {c : Array Value} (v : Value) (hk : W.heap[k]? = some (Obj.cells c 3 (0, 0))) : Bld B b acc (W.setCell ⟨k, 0, none⟩ v) := by
  refine h.imp ?_ ?_ <;>
    · rintro ⟨hB, v', hv, hown, hne⟩
      refine ⟨hB, v', set_other hv (ty_ne hv hk (by decide)), hown.kept (row := some k) ⟨rfl, rfl, rfl, by simp [World.setCell], fun i hi hne => Below.heap_setCell W ⟨k, 0, none⟩ v i (fun e => hne (by rw [show i = k from e]))⟩ (.inr ?_), hne⟩
      intro e
      obtain ⟨c', fz, hc'⟩ := Lib.ownsRowF_kind hown k e
      rw [hk] at hc'
      injection hc' with hc'
      injection hc' with _ hc' _
      exact absurd hc' (by decide)
theorem inner71 {B b : Nat} {C : List (Int × Int)} (hC : ∀ c ∈ C, Rn c.1) : Inner B 71 C (.pointer (some ⟨b, 0, none⟩)) (fun ps W => Bld B b (ps.map (rnAt C)) W) where
  below ps W W' h hb := h.below hb
  set ps W k c v h hk := h.set v hk
  call ps x a rs A c W hx h hp hc h0 hl hr hA hB hrc := by
    have hrs : rs = (List.range' a rs.length).map (rnAt C) := by
      apply List.ext_getElem
      · simp
      · intro i h1 h2
        rw [List.getElem_map, List.getElem_range', rnAt, List.getD_eq_getElem?_getD]
        have := hc i h1
        rw [show a + 1 * i = a + i by omega, this]
        rfl
    have hrn : ∀ r ∈ rs, Rn r := by
      intro r hr'
      obtain ⟨i, hi, rfl⟩ := List.getElem_of_mem hr'
      have := hC _ (List.mem_of_getElem? (hc i hi))
      exact this
    refine (slice1_calls x hr hA hrn h hB (by rw [List.length_map]; exact hl)).mono ?_
    rintro e w' ⟨he, h', hk⟩
    obtain ⟨_, c0, hc0⟩ := h.at
    refine ⟨he, ?_, hk.kpi hc0⟩
    rw [List.map_append, ← hrs]
    exact h'
theorem fresh_bld (W : World) : Bld W.heap.size W.heap.size [] (W.alloc (.cells #[.pointer none, .slice none 0 0] 118)) := Lib.IsBuilderF.of (Lib.fresh_isBuilder 118 5 W)
set_option maxRecDepth 100000 in
set_option maxHeartbeats 8000000 in
theorem slice_yes {K0 : Nat → Prop} {W : World} {b : Nat} {t : Tree} (h : RopeAt K0 W b t) (hsz : t.cells.length ≤ 1048576) (hN : ∀ c ∈ t.cells, Rn c.1) {lo hi : Nat} (hlo : lo ≤ hi) (hhi : hi ≤ vis t.cells) :
    Calls Tryd.prog 31 #[.pointer (some ⟨b, 0, none⟩), .int .i64 (lo : Int), .int .i64 (hi : Int)] W fun e w' => e = .returned (.tuple #[.string (txt (((visR t.cells).drop lo).take (hi - lo))), .int .i64 0]) ∧ Below W.heap.size W w' := by
  obtain ⟨p0, hv, hE, hn, hlt⟩ := h.blk
  have ht := hE.t _ List.mem_cons_self
  have d0 : decide ((lo : Int) < 0) = false := decide_eq_false (by omega)
  have d1 : decide (hi < lo) = false := decide_eq_false (by omega)
  have d2 : decide (vis t.cells < hi) = false := decide_eq_false (by omega)
  have hrb : ∀ W', Below W.heap.size W W' → RopeAt K0 W' b t := fun W' hW => h.below hW
  have HRB := Lib.hid hrb
  have HLO := Lib.hid hlo
  have HHI := Lib.hid hhi
  have ht2 := Rpo.of (ht.rep.bound ht.good)
  have HT2 : Hid (Rpo (fun k => k < W.heap.size) W t (.pointer p0)) := Lib.hid (ht2.mono (fun k hk => hk.2))
  clear hrb hlo hhi ht2 h
  by_cases c : lo = hi
  · subst c
    go_enter Tryd.func31, Tryd.ntmps31
    go_wp2_with (first
      | (go_at_call 20; refine (shownR_calls (HRB.out _ (Below.refl _ _))).mono ?_; rintro e w1 ⟨rfl, hb1⟩; have fb := fresh_bld w1; have hba := below_alloc (Below.refl w1.heap.size w1) (.cells #[.pointer none, .slice none 0 0] 118))
      | (go_at_call 70; refine (between_none _ b lo 71 _).mono ?_; rintro e w2 ⟨rfl, hb2⟩; have fb2 := fb.below hb2)
      | (go_at_call 63; refine (Tryd.Builder_String_any_k _ _ _ _ fb2 (Nat.le_trans hba.size hb2.size)).mono ?_; rintro e w3 ⟨rfl, _, hb3, _⟩))
    go_ret2
    refine ⟨by simp [txt], ?_⟩
    exact hb1.trans ((hba.trans ((hb2.mono hba.size).trans hb3)).mono hb1.size)
  · have hlt' : lo < hi := Nat.lt_of_le_of_ne HLO.out c
    go_enter Tryd.func31, Tryd.ntmps31
    go_wp2_with (first
      | (go_at_call 20; refine (shownR_calls (HRB.out _ (Below.refl _ _))).mono ?_; rintro e w1 ⟨rfl, hb1⟩; have fb := fresh_bld w1; have hba := below_alloc (Below.refl w1.heap.size w1) (.cells #[.pointer none, .slice none 0 0] 118); have hbW := hb1.trans (hba.mono hb1.size))
      | (go_at_call 70; refine (between_71 (B := w1.heap.size) (HRB.out _ hbW) hsz hlt' HHI.out ((hbW.block _ hlt).trans hv) ((HT2.out.mono (fun k hk => Nat.lt_of_lt_of_le hk hb1.size)).below hbW) ht.good (Nat.lt_of_lt_of_le hlt hb1.size) hba.size (inner71 hN) fb).mono ?_; rintro e w2 ⟨rfl, fb2, hb2⟩; rw [vp_from_runes (Nat.le_trans HLO.out HHI.out)] at fb2; obtain ⟨S, hS⟩ : ∃ S, S = ((visR t.cells).drop lo).take (hi - lo) := ⟨_, rfl⟩; rw [← hS] at fb2; have HS := Lib.hid hS; clear hS)
      | (go_at_call 63; refine (Tryd.Builder_String_any_k _ _ _ _ fb2 (Nat.le_trans hba.size hb2.size)).mono ?_; rintro e w3 ⟨rfl, _, hb3, _⟩))
    go_ret2
    refine ⟨?_, hbW.trans ((hb2.trans hb3).mono hb1.size)⟩
    rw [← HS.out]
    rfl
set_option maxRecDepth 100000 in
set_option maxHeartbeats 8000000 in
theorem text_calls {K0 : Nat → Prop} {W : World} {b : Nat} {t : Tree} (h : RopeAt K0 W b t) (hsz : t.cells.length ≤ 1048576) (hN : ∀ c ∈ t.cells, Rn c.1) :
    Calls Tryd.prog 30 #[.pointer (some ⟨b, 0, none⟩)] W fun e w' => e = .returned (.string (txt (visR t.cells))) ∧ Below W.heap.size W w' := by
  obtain ⟨S, hS⟩ : ∃ S, S = visR t.cells := ⟨_, rfl⟩
  have hsl : ∀ W', Below W.heap.size W W' → Calls Tryd.prog 31 #[.pointer (some ⟨b, 0, none⟩), .int .i64 0, .int .i64 (vis t.cells : Int)] W' fun e w' => e = .returned (.tuple #[.string (txt S), .int .i64 0]) ∧ Below W'.heap.size W' w' := by
    intro W' hW
    refine (slice_yes (h.below hW) hsz hN (lo := 0) (Nat.zero_le _) (Nat.le_refl _)).mono ?_
    rintro e w2 ⟨he, hb⟩
    rw [List.drop_zero, Nat.sub_zero, List.take_of_length_le (by rw [visR_len]; exact Nat.le_refl _), ← hS] at he
    exact ⟨he, hb⟩
  have HSL := Lib.hid hsl
  rw [← hS]
  clear hS hsl
  go_enter Tryd.func30, Tryd.ntmps30
  go_wp2_with (first
    | (go_at_call 20; refine (shownR_calls h).mono ?_; rintro e w1 ⟨rfl, hb1⟩)
    | (go_at_call 31; refine (HSL.out _ hb1).mono ?_; rintro e w2 ⟨rfl, hb2⟩))
  go_ret
  exact ⟨rfl, hb1.trans (hb2.mono hb1.size)⟩
end Go.Proofs.YteeigokkafcaaaaDoorRope
end
section
namespace Go.Proofs.YteeigokkafcaaaaDoorRope
open Go.RowKit Go.Proofs.YteeigokkafcaaaaDoorW.PrintWords Go.Proofs.YteeigokkafcaaaaDoorW.PrintMore Go.Proofs.YteeigokkafcaaaaDoor.Pr
set_option linter.unusedSimpArgs false
set_option linter.unusedVariables false
def RopeHas (W : World) (b : Nat) (cs : List (Int × Int)) : Prop := ∃ K t, RopeAt K W b t ∧ t.cells = cs
theorem RopeHas.below {W W' : World} {b : Nat} {cs : List (Int × Int)} (h : RopeHas W b cs) (hb : Below W.heap.size W W') : RopeHas W' b cs := by
  obtain ⟨K, t, h, hc⟩ := h
  exact ⟨K, t, h.below hb, hc⟩
theorem BarsAt.grown {W W' : World} {b : Nat} (h : BarsAt W) (hg : W.grownBy W' (some b)) (hb : b ≠ 0) : BarsAt W' := by
  have hl := h.lt
  obtain ⟨t, fr, h⟩ := h
  exact ⟨t, fr, (hg.block 0 hl (fun e => hb (by injection e with e; exact e.symm))).trans h⟩
section
variable {S : Nat → Prop} {W W' : World} {A : Option Addr} {c : Nat} {cs : List (Int × Int)}
end
section
variable {W : World} {b : Nat} {cs : List (Int × Int)}
theorem rope_total (h : RopeHas W b cs) : Calls Tryd.prog 19 #[.pointer (some ⟨b, 0, none⟩)] W fun e w' => e = .returned (.int .i64 (cs.length : Int)) ∧ Below W.heap.size W w' := by
  obtain ⟨K, t, h, rfl⟩ := h
  exact total_calls h
theorem rope_shown (h : RopeHas W b cs) : Calls Tryd.prog 20 #[.pointer (some ⟨b, 0, none⟩)] W fun e w' => e = .returned (.int .i64 (vis cs : Int)) ∧ Below W.heap.size W w' := by
  obtain ⟨K, t, h, rfl⟩ := h
  exact shownR_calls h
theorem rope_cell (h : RopeHas W b cs) (hsz : cs.length ≤ 1048576) {p : Nat} (hp : p < cs.length) : Calls Tryd.prog 34 #[.pointer (some ⟨b, 0, none⟩), .int .i64 (p : Int)] W fun e w' => e = .returned (.tuple #[.agg #[.int .i32 cs[p].1, .int .i64 cs[p].2], .int .i64 0]) ∧ Below W.heap.size W w' := by
  obtain ⟨K, t, h, rfl⟩ := h
  exact cell_yes h hsz p _ (List.getElem?_eq_getElem hp)
theorem rope_text (h : RopeHas W b cs) (hsz : cs.length ≤ 1048576) (hN : ∀ c ∈ cs, Rn c.1) : Calls Tryd.prog 30 #[.pointer (some ⟨b, 0, none⟩)] W fun e w' => e = .returned (.string (txt (visR cs))) ∧ Below W.heap.size W w' := by
  obtain ⟨K, t, h, rfl⟩ := h
  exact text_calls h hsz hN
theorem rope_insert (h : RopeHas W b cs) (hw : BarsAt W) {at_ : Nat} {l : List Int} {hd : Int} (ha : at_ ≤ cs.length) (hl : Lets l) (hne : l ≠ []) (hh : 0 ≤ hd ∧ hd ≤ 1048576) (hsz : cs.length + l.length ≤ 1048576) : Calls Tryd.prog 33 #[.pointer (some ⟨b, 0, none⟩), .int .i64 (at_ : Int), .string (txt l), .int .i64 hd] W fun e w' => e = .returned (.int .i64 0) ∧ RopeHas w' b (insC cs at_ l hd) ∧ W.grownBy w' (some b) := by
  obtain ⟨K, t, h, rfl⟩ := h
  refine (insert_yes h hw ha hl hne hh hsz).mono ?_
  rintro e w' ⟨t', he, h', hc, hg⟩
  exact ⟨he, ⟨_, t', h', hc⟩, hg⟩
end
theorem visR_append (a b : List (Int × Int)) : visR (a ++ b) = visR a ++ visR b := by simp [visR]
theorem visR_piece (l : List Int) (h : Int) : visR (l.map (fun c => (c, h))) = if h = 0 then l else [] := by
  unfold visR
  by_cases c : h = 0
  · rw [if_pos c, List.filter_eq_self.2 (fun x hx => by obtain ⟨d, _, rfl⟩ := List.mem_map.1 hx; simpa using c), List.map_map]
    simp [Function.comp_def]
  · rw [if_neg c, List.filter_eq_nil_iff.2 (fun x hx => by obtain ⟨d, _, rfl⟩ := List.mem_map.1 hx; simpa using c)]
    rfl
theorem visR_take (cs : List (Int × Int)) (n : Nat) : visR (cs.take n) = (visR cs).take (vis (cs.take n)) := by
  conv => rhs; rw [← List.take_append_drop n cs, visR_append]
  rw [show vis (List.take n (List.take n cs ++ List.drop n cs)) = (visR (cs.take n)).length by rw [List.take_append_drop, visR_len], List.take_left]
theorem visR_drop (cs : List (Int × Int)) (n : Nat) : visR (cs.drop n) = (visR cs).drop (vis (cs.take n)) := by
  conv => rhs; rw [← List.take_append_drop n cs, visR_append]
  rw [show vis (List.take n (List.take n cs ++ List.drop n cs)) = (visR (cs.take n)).length by rw [List.take_append_drop, visR_len], List.drop_left]
theorem visR_ins (cs : List (Int × Int)) (n : Nat) (l : List Int) (h : Int) : visR (insC cs n l h) = (visR cs).take (vis (cs.take n)) ++ (if h = 0 then l else []) ++ (visR cs).drop (vis (cs.take n)) := by
  rw [insC, visR_append, visR_append, visR_piece, visR_take, visR_drop]
theorem ins_rn {cs : List (Int × Int)} {n : Nat} {l : List Int} {h : Int} (hc : ∀ c ∈ cs, Rn c.1) (hl : ∀ r ∈ l, Rn r) : ∀ c ∈ insC cs n l h, Rn c.1 := by
  intro c hm
  rw [insC, List.mem_append, List.mem_append] at hm
  rcases hm with (hm | hm) | hm
  · exact hc _ (List.mem_of_mem_take hm)
  · obtain ⟨r, hr, rfl⟩ := List.mem_map.1 hm
    exact hl r hr
  · exact hc _ (List.mem_of_mem_drop hm)
end Go.Proofs.YteeigokkafcaaaaDoorRope
end
section
namespace Go.Proofs.YteeigokkafcaaaaDoorRope
open Go.RowKit Go.Proofs.YteeigokkafcaaaaDoorW.PrintWords Go.Proofs.YteeigokkafcaaaaDoorW.PrintMore Go.Proofs.YteeigokkafcaaaaDoor.Pr
set_option linter.unusedSimpArgs false
set_option linter.unusedVariables false
set_option maxRecDepth 100000 in
set_option maxHeartbeats 8000000 in
theorem from_grow {l : List (List Int × Int)} (hg : GoodRuns l) (hlen : (rcells l).length ≤ 2097152) (hbig : 1048576 < (rcells l).length) (hll : l.length ≤ 1048576) {w : World} (hw : BarsAt w) {A : Option Addr} {c : Nat} (hA : Kd.C k58 w A l.length (sRuns l)) (hc : l.length ≤ c) :
    Calls Tryd.prog 18 #[.slice A l.length c] w fun e w' => e = .returned (.tuple #[.pointer none, .int .i64 24]) ∧ Below w.heap.size w w' := by
  have HLEN := Lib.hid hlen
  clear hlen
  go_enter Tryd.func18, Tryd.ntmps18
  go_wp2
  go_loopw [4, 15] (fun t i wr => ∃ k : Nat, k ≤ l.length ∧ i = .int .i64 (k : Int) ∧ t = .int .i64 ((rcells (l.take k)).length : Int) ∧ Below w.heap.size w wr) (fun _ i _ => l.length - (intOf i).toNat)
  case atStart => exact ⟨0, Nat.zero_le _, rfl, rfl, Below.refl _ _⟩
  case round =>
    obtain ⟨k, hkl, rfl, rfl, hB⟩ := hrel
    by_cases hlt : k < l.length
    · have hle := rcells_le (l := l) k
      have hle1 := rcells_le (l := l) (k + 1)
      have htk := rcells_take hlt
      obtain ⟨h1, h2, h3, h4⟩ := hg.one _ (List.getElem_mem hlt)
      obtain ⟨ad, hAd, x0, x1⟩ := run_cell hA hlt
      subst hAd
      have y0 := pw_cell_below hB x0
      have y1 := pw_cell_below hB x1
      have e0 := txt_ne h1
      have kb : (k : Int) ≤ 1048576 := by omega
      have hb1 : ((rcells (l.take k)).length : Int) + (l[k].1.length : Int) ≤ 2097152 := by have := HLEN.out; omega
      have hb2 : (l[k].1.length : Int) ≤ 2097152 := by have := HLEN.out; omega
      have hn : l[k].1.length ≤ 1073741824 := by omega
      have hwr := hw.below hB
      have HTK := Lib.hid htk
      clear hle hle1 htk x0 x1
      by_cases hk0 : k = 0
      · have d0 : decide (0 < k) = false := decide_eq_false (by omega)
        clear hk0
        go_wp2
        go_quiet (fail)
        go_wp2_with (first
          | (go_at_call 53; refine (check_yes h2 hn (hwr.below (pw_below_drewN (below_alloc (Below.refl _ _) _) _))).mono ?_; rintro e w2 ⟨rfl, hb3⟩; have z0 := bcell hb3 (b := wr.heap.size) (o := 1) (x := .int .i64 l[k].2) (by simp))
          | (go_at_call 54; refine (rope_counter.calls _ _ _ (counter_yes h3 h4)).mono ?_; rintro e w3 ⟨rfl, ⟨nd, rfl⟩⟩))
        have hB2 : Below w.heap.size w (w2.drewN nd) := pw_below_drewN (hB.trans ((pw_below_drewN (below_alloc (Below.refl _ wr) _) _).trans (hb3.mono (by simp)) |>.mono hB.size)) nd
        go_roundw
        case rel => exact ⟨k + 1, hlt, by go_num, by rw [HTK.out]; go_num, hB2⟩
        case measure => simp [intOf]; omega
      · have hkp : 0 < k := by omega
        have hl1 : k - 1 < l.length := by omega
        obtain ⟨ad', hAd', xx, x3⟩ := run_cell hA hl1
        clear xx
        injection hAd' with hAd'
        subst hAd'
        have y3 := pw_cell_below hB x3
        have hne : (l[k].2 == l[k - 1].2) = false := by
          have := hg.two (k - 1) (by omega)
          simp only [show k - 1 + 1 = k by omega] at this
          exact beq_eq_false_iff_ne.mpr this
        obtain ⟨q, hq⟩ : ∃ q, q = l[k - 1].2 := ⟨_, rfl⟩
        rw [← hq] at y3 hne
        clear hq
        have d0 : decide (0 < k) = true := decide_eq_true hkp
        obtain ⟨j, hj⟩ : ∃ j : Int, (k : Int) - 1 = j := ⟨_, rfl⟩
        have wk : IntKind.i64.wrap ((k : Int) - 1) = j := ((IntWalk.i64_left _).trans (w64 (by omega) (by omega))).trans hj
        have kn : k - 1 = j.toNat := by omega
        rw [kn] at y3
        have p0 : (0 ≤ j) = True := eq_true (by omega)
        have p1 : (j < (l.length : Int)) = True := eq_true (by omega)
        clear hk0 x3 hkp kn hj
        clear hl1
        go_wp2
        obtain ⟨W5, hW5⟩ : ∃ W5, wr.alloc (.cells #[.string (txt l[k].1), .int .i64 l[k].2] 58) = W5 := ⟨_, rfl⟩
        have hb5 : Below wr.heap.size wr W5 := by rw [← hW5]; exact below_alloc (Below.refl _ wr) _
        have q0 : W5.cell? ⟨wr.heap.size, 0, none⟩ = some (.string (txt l[k].1)) := by rw [← hW5]; simp
        have q1 : W5.cell? ⟨wr.heap.size, 1, none⟩ = some (.int .i64 l[k].2) := by rw [← hW5]; simp
        have y5 := pw_cell_below hb5 y3
        rw [hW5]
        clear hW5 y3 y0 y1
        go_quiet (fail)
        go_wp2_with (first
          | (go_at_call 53; refine (check_yes h2 hn (hwr.below (pw_below_drewN hb5 _))).mono ?_; rintro e w2 ⟨rfl, hb3⟩; have z0 := pw_cell_below hb3 (show (W5.drewN nq).cell? _ = _ from q1))
          | (go_at_call 54; refine (rope_counter.calls _ _ _ (counter_yes h3 h4)).mono ?_; rintro e w3 ⟨rfl, ⟨nd, rfl⟩⟩))
        have hB2 : Below w.heap.size w (w2.drewN nd) := pw_below_drewN (hB.trans ((pw_below_drewN hb5 _).trans (hb3.mono hb5.size) |>.mono hB.size)) nd
        go_roundw
        case rel => exact ⟨k + 1, hlt, by go_num, by rw [HTK.out]; go_num, hB2⟩
        case measure => simp [intOf]; omega
    · have hkl2 : k = l.length := by omega
      subst hkl2
      rw [List.take_length]
      clear hlt hkl
      have hb4 : ((rcells l).length : Int) ≤ 2097152 := by have := HLEN.out; omega
      have d4 : decide ((1048576 : Int) < ((rcells l).length : Int)) = true := decide_eq_true (by omega)
      have d5 : ((1048576 : Int) < ((rcells l).length : Int)) = True := eq_true (by omega)
      go_wp2
      go_ret2
      exact ⟨rfl, hB⟩
set_option maxRecDepth 100000 in
set_option maxHeartbeats 16000000 in
theorem rope_insert_grow {w : World} {b : Nat} {cs : List (Int × Int)} (h : RopeHas w b cs) (hw : BarsAt w) {at_ : Nat} {l : List Int} {hd : Int} (ha : at_ ≤ cs.length) (hl : Lets l) (hh : 0 ≤ hd ∧ hd ≤ 1048576) (hsz : cs.length ≤ 1048576) (hll : l.length ≤ 1048576) (hbig : 1048576 < cs.length + l.length) :
    Calls Tryd.prog 33 #[.pointer (some ⟨b, 0, none⟩), .int .i64 (at_ : Int), .string (txt l), .int .i64 hd] w fun e w' => e = .returned (.int .i64 24) ∧ Below w.heap.size w w' := by
  obtain ⟨N, hN⟩ : ∃ N, N = cs.length := ⟨_, rfl⟩
  have C1 : ∀ W, RopeHas W b cs → Calls Tryd.prog 19 #[.pointer (some ⟨b, 0, none⟩)] W fun e w' => e = .returned (.int .i64 (N : Int)) ∧ Below W.heap.size W w' := fun W h => by rw [hN]; exact rope_total h
  have d0 : decide ((at_ : Int) < 0) = false := decide_eq_false (by omega)
  have d1 : decide (N < at_) = false := decide_eq_false (by omega)
  have d2 : decide ((1048576 : Int) < (N : Int) + (l.length : Int)) = true := decide_eq_true (by omega)
  have d3 : ((1048576 : Int) < (N : Int) + (l.length : Int)) = True := eq_true (by omega)
  have b1 : (N : Int) ≤ 1048576 := by omega
  have b2 : (l.length : Int) ≤ 1048576 := by omega
  have hc := counter_yes hh.1 hh.2
  have HC := Lib.hid hc
  have HLL : Hid (l.length ≤ 1073741824) := Lib.hid (by omega)
  clear hc hh hsz hbig ha hN hll
  have C1a := Lib.hid C1
  have C1b := Lib.hid C1
  clear C1
  go_enter Tryd.func33, Tryd.ntmps33
  go_wp2_with (first
    | (go_at_call 19; refine (C1a.out _ h).mono ?_; clear C1a; rintro e w1 ⟨rfl, hb1⟩)
    | (go_at_call 53; refine (check_yes hl HLL.out (hw.below hb1)).mono ?_; rintro e w2 ⟨rfl, hb2⟩; have hb12 := hb1.trans (hb2.mono hb1.size))
    | (go_at_call 54; refine (rope_counter.calls _ _ _ HC.out).mono ?_; rintro e w3 ⟨rfl, ⟨nd, rfl⟩⟩; have hb13 := pw_below_drewN hb12 nd)
    | (go_at_call 19; refine (C1b.out _ (h.below hb13)).mono ?_; clear C1b; rintro e w4 ⟨rfl, hb4⟩; have hb14 := hb13.trans (hb4.mono hb13.size)))
  go_ret
  exact ⟨rfl, hb14⟩
set_option maxRecDepth 100000 in
set_option maxHeartbeats 16000000 in
theorem rope_insert_none {w : World} {b : Nat} {cs : List (Int × Int)} (h : RopeHas w b cs) (hw : BarsAt w) {at_ : Nat} {hd : Int} (ha : at_ ≤ cs.length) (hh : 0 ≤ hd ∧ hd ≤ 1048576) (hsz : cs.length ≤ 1048576) :
    Calls Tryd.prog 33 #[.pointer (some ⟨b, 0, none⟩), .int .i64 (at_ : Int), .string (txt []), .int .i64 hd] w fun e w' => e = .returned (.int .i64 0) ∧ Below w.heap.size w w' := by
  obtain ⟨N, hN⟩ : ∃ N, N = cs.length := ⟨_, rfl⟩
  have C1 : ∀ W, RopeHas W b cs → Calls Tryd.prog 19 #[.pointer (some ⟨b, 0, none⟩)] W fun e w' => e = .returned (.int .i64 (N : Int)) ∧ Below W.heap.size W w' := fun W h => by rw [hN]; exact rope_total h
  have C2 : ∀ W, BarsAt W → Calls Tryd.prog 53 #[.string (txt [])] W fun e w' => e = .returned (.tuple #[.int .i64 0, .int .i64 0, .int .i64 0]) ∧ Below W.heap.size W w' := fun W hw => check_yes (l := []) (fun r hr => by cases hr) (by decide) hw
  have d0 : decide ((at_ : Int) < 0) = false := decide_eq_false (by omega)
  have d1 : decide (N < at_) = false := decide_eq_false (by omega)
  have d2 : decide ((1048576 : Int) < (N : Int)) = false := decide_eq_false (by omega)
  have d3 : decide (1048576 < N) = false := decide_eq_false (by omega)
  have b1 : (N : Int) ≤ 1048576 := by omega
  have hc := counter_yes hh.1 hh.2
  have HC := Lib.hid hc
  clear hc hh hsz ha hN
  have C1a := Lib.hid C1
  have C1b := Lib.hid C1
  have C2 := Lib.hid C2
  clear C1
  go_enter Tryd.func33, Tryd.ntmps33
  go_wp2_with (first
    | (go_at_call 19; refine (C1a.out _ h).mono ?_; clear C1a; rintro e w1 ⟨rfl, hb1⟩)
    | (go_at_call 53; refine (C2.out _ (hw.below hb1)).mono ?_; rintro e w2 ⟨rfl, hb2⟩; have hb12 := hb1.trans (hb2.mono hb1.size))
    | (go_at_call 54; refine (rope_counter.calls _ _ _ HC.out).mono ?_; rintro e w3 ⟨rfl, ⟨nd, rfl⟩⟩; have hb13 := pw_below_drewN hb12 nd)
    | (go_at_call 19; refine (C1b.out _ (h.below hb13)).mono ?_; clear C1b; rintro e w4 ⟨rfl, hb4⟩; have hb14 := hb13.trans (hb4.mono hb13.size)))
  go_ret
  exact ⟨rfl, hb14⟩
end Go.Proofs.YteeigokkafcaaaaDoorRope
end
section
namespace Go.Proofs.YteeigokkafcaaaaDoorRope
open Go.RowKit Go.Proofs.YteeigokkafcaaaaDoorW.PrintWords Go.Proofs.YteeigokkafcaaaaDoorW.PrintMore Go.Proofs.YteeigokkafcaaaaDoor.Pr
set_option linter.unusedSimpArgs false
set_option linter.unusedVariables false
structure Few (l : List (List Int × Int)) : Prop where
  one : ∀ x ∈ l, x.1 ≠ []
  two : ∀ i (h : i + 1 < l.length), l[i + 1].2 ≠ l[i].2
theorem Few.nil : Few [] := ⟨by simp, by simp⟩
theorem Few.single {x : List Int × Int} (h : x.1 ≠ []) : Few [x] := ⟨by simpa using h, by simp⟩
theorem GoodRuns.few {l : List (List Int × Int)} (h : GoodRuns l) : Few l := ⟨fun x hx => (h.one x hx).1, h.two⟩
theorem Few.tail {x : List Int × Int} {l : List (List Int × Int)} (h : Few (x :: l)) : Few l := by
  refine ⟨fun y hy => h.one y (List.mem_cons_of_mem _ hy), fun i hi => ?_⟩
  have := h.two (i + 1) (by simpa using hi)
  simpa using this
theorem Few.snoc {o : List (List Int × Int)} {a : List Int} {h : Int} {rs : List Int} {h' : Int} (hf : Few (o ++ [(a, h)])) (hr : rs ≠ []) (hne : h' ≠ h) : Few (o ++ [(a, h)] ++ [(rs, h')]) := by
  refine ⟨fun x hx => ?_, fun i hi => ?_⟩
  · rcases List.mem_append.1 hx with hx | hx
    · exact hf.one x hx
    · rw [List.mem_singleton.1 hx]; exact hr
  · have hl : (o ++ [(a, h)]).length = o.length + 1 := by simp
    have hi' := hi
    rw [List.length_append, hl] at hi'
    simp only [List.length_cons, List.length_nil] at hi'
    have hlast : ∀ hj : o.length < (o ++ [(a, h)]).length, (o ++ [(a, h)])[o.length].2 = h := by simp
    obtain ⟨L, hL⟩ : ∃ L, L = o ++ [(a, h)] := ⟨_, rfl⟩
    rw [← hL] at hl hlast hf
    simp only [← hL]
    by_cases c : i + 1 < o.length + 1
    · rw [List.getElem_append_left (by omega), List.getElem_append_left (by omega)]
      exact hf.two i (by omega)
    · obtain rfl : i = o.length := by omega
      rw [List.getElem_append_right (by omega), List.getElem_append_left (by omega), hlast (by omega)]
      simpa [hl] using hne
theorem Few.grow {o : List (List Int × Int)} {a : List Int} {h : Int} (b : List Int) (hf : Few (o ++ [(a, h)])) : Few (o ++ [(a ++ b, h)]) := by
  refine ⟨fun x hx => ?_, fun i hi => ?_⟩
  · rcases List.mem_append.1 hx with hx | hx
    · exact hf.one x (List.mem_append_left _ hx)
    · rw [List.mem_singleton.1 hx]
      have := hf.one (a, h) (by simp)
      intro e
      exact this (List.append_eq_nil_iff.1 e).1
  · have key : ∀ (j : Nat) (hj : j < (o ++ [(a ++ b, h)]).length) (hj' : j < (o ++ [(a, h)]).length), (o ++ [(a ++ b, h)])[j].2 = (o ++ [(a, h)])[j].2 := by
      intro j hj hj'
      by_cases c : j < o.length
      · rw [List.getElem_append_left c, List.getElem_append_left c]
      · have : j = o.length := by simp at hj; omega
        subst this
        simp
    have hi' : i + 1 < (o ++ [(a, h)]).length := by simpa using hi
    rw [key _ _ hi', key _ _ (by omega)]
    exact hf.two i hi'
theorem rcells_cons (x : List Int × Int) (l : List (List Int × Int)) : rcells (x :: l) = x.1.map (fun c => (c, x.2)) ++ rcells l := by simp [rcells]
theorem few_head {x : List Int × Int} {l : List (List Int × Int)} (h : Few (x :: l)) : (rcells (x :: l)).takeWhile (fun c => c.2 == x.2) = x.1.map (fun c => (c, x.2)) := by
  rw [rcells_cons]
  have h1 : ∀ (a : List Int) (s : List (Int × Int)), (a.map (fun c => (c, x.2)) ++ s).takeWhile (fun c => c.2 == x.2) = a.map (fun c => (c, x.2)) ++ s.takeWhile (fun c => c.2 == x.2) := by
    intro a s
    induction a with
    | nil => rfl
    | cons r t ih => simp [List.takeWhile, ih]
  rw [h1]
  cases l with
  | nil => simp [rcells]
  | cons y t =>
    have hy := h.one y (by simp)
    have h2 := h.two 0 (by simp)
    obtain ⟨a, k⟩ := y
    cases a with
    | nil => exact absurd rfl hy
    | cons r a =>
      have hk : (k == x.2) = false := beq_eq_false_iff_ne.mpr (by simpa using h2)
      simp [rcells, List.takeWhile, hk]
theorem few_uniq : ∀ (l l' : List (List Int × Int)), Few l → Few l' → rcells l = rcells l' → l = l'
  | [], [], _, _, _ => rfl
  | [], y :: t, _, h', e => by
    have h1 := List.length_pos_iff.2 (h'.one y (by simp))
    rw [rcells_cons] at e
    have e' := congrArg List.length e
    rw [List.length_append, List.length_map] at e'
    simp only [rcells, List.flatMap_nil, List.length_nil] at e'
    omega
  | x :: t, [], h, _, e => by
    have h1 := List.length_pos_iff.2 (h.one x (by simp))
    rw [rcells_cons] at e
    have e' := congrArg List.length e
    rw [List.length_append, List.length_map] at e'
    simp only [rcells, List.flatMap_nil, List.length_nil] at e'
    omega
  | x :: t, y :: s, h, h', e => by
    have hx := h.one x (by simp)
    have hy := h'.one y (by simp)
    have hk : x.2 = y.2 := by
      obtain ⟨a, k⟩ := x
      obtain ⟨b, j⟩ := y
      cases a with
      | nil => exact absurd rfl hx
      | cons r a =>
        cases b with
        | nil => exact absurd rfl hy
        | cons q b =>
          rw [rcells_cons, rcells_cons] at e
          simp only [List.map_cons, List.cons_append] at e
          injection e with e _
          injection e
    have h1 := few_head h
    have h2 := few_head h'
    rw [e, hk, h2, ← hk] at h1
    have h3 : y.1 = x.1 := by
      have := congrArg (List.map Prod.fst) h1
      simpa [List.map_map, Function.comp_def] using this
    have hxy : x = y := Prod.ext h3.symm hk
    subst hxy
    rw [rcells_cons, rcells_cons, List.append_cancel_left_eq] at e
    rw [few_uniq t s h.tail h'.tail e]
def allR (o : List (List Int × Int)) (acc : List Int) (h : Int) : List (List Int × Int) := if acc = [] then o else o ++ [(acc, h)]
theorem allR_nil (o : List (List Int × Int)) (h : Int) : allR o [] h = o := rfl
structure RunsQ (C : List (Int × Int)) (q : Nat) (o : List (List Int × Int)) (acc : List Int) (h : Int) : Prop where
  few : Few (allR o acc h)
  cells : rcells (allR o acc h) = C.take q
  fresh : acc = [] → o = []
theorem RunsQ.zero (C : List (Int × Int)) : RunsQ C 0 [] [] 0 := ⟨Few.nil, rfl, fun _ => rfl⟩
theorem RunsQ.same {C : List (Int × Int)} {q : Nat} {o : List (List Int × Int)} {acc rs : List Int} {h : Int} (H : RunsQ C q o acc h) (hr : rs ≠ []) (hc : C.take (q + rs.length) = C.take q ++ rs.map (fun c => (c, h))) : RunsQ C (q + rs.length) o (acc ++ rs) h := by
  have hne : acc ++ rs ≠ [] := fun e => hr (List.append_eq_nil_iff.1 e).2
  by_cases c : acc = []
  · subst c
    have := H.fresh rfl
    subst this
    have h0 := H.cells
    refine ⟨?_, ?_, fun e => absurd e hne⟩
    · simp only [allR, List.nil_append, if_neg hr]; exact Few.single hr
    · rw [hc, ← h0]; simp [allR, rcells, hr]
  · have h1 := H.few
    have h2 := H.cells
    rw [allR, if_neg c] at h1 h2
    refine ⟨?_, ?_, fun e => absurd e hne⟩
    · rw [allR, if_neg hne]; exact h1.grow rs
    · rw [hc, ← h2, allR, if_neg hne]; simp [rcells]
theorem RunsQ.other {C : List (Int × Int)} {q : Nat} {o : List (List Int × Int)} {acc rs : List Int} {h h' : Int} (H : RunsQ C q o acc h) (hr : rs ≠ []) (hne : h' ≠ h) (hc : C.take (q + rs.length) = C.take q ++ rs.map (fun c => (c, h'))) : RunsQ C (q + rs.length) (allR o acc h) rs h' := by
  refine ⟨?_, ?_, fun e => absurd e hr⟩
  · rw [allR, if_neg hr]
    by_cases c : acc = []
    · subst c
      have := H.fresh rfl
      subst this
      exact Few.single hr
    · have h1 := H.few
      rw [allR, if_neg c] at h1 ⊢
      exact h1.snoc hr hne
  · rw [allR, if_neg hr, hc, ← H.cells]; simp [rcells]
theorem RunsQ.hid {C : List (Int × Int)} {q : Nat} {o : List (List Int × Int)} {acc : List Int} {h : Int} (H : RunsQ C q o acc h) : (allR o acc h).length ≤ q := by
  have h1 : ∀ (l : List (List Int × Int)), (∀ x ∈ l, x.1 ≠ []) → l.length ≤ (rcells l).length := by
    intro l
    induction l with
    | nil => intro _; simp
    | cons x t ih =>
      intro hx
      have := ih (fun y hy => hx y (List.mem_cons_of_mem _ hy))
      have h0 := List.length_pos_iff.2 (hx x (by simp))
      rw [rcells_cons, List.length_append, List.length_map, List.length_cons]
      omega
  have := h1 _ H.few.one
  rw [H.cells, List.length_take] at this
  omega
theorem RunsQ.acc {C : List (Int × Int)} {q : Nat} {o : List (List Int × Int)} {acc : List Int} {h : Int} (H : RunsQ C q o acc h) : acc.length ≤ q := by
  by_cases c : acc = []
  · subst c; simp
  · have := congrArg List.length H.cells
    rw [allR, if_neg c, List.length_take] at this
    simp [rcells] at this
    omega
end Go.Proofs.YteeigokkafcaaaaDoorRope
end
section
namespace Go.Proofs.YteeigokkafcaaaaDoorRope
open Go.RowKit Go.Proofs.YteeigokkafcaaaaDoorW.PrintWords Go.Proofs.YteeigokkafcaaaaDoorW.PrintMore Go.Proofs.YteeigokkafcaaaaDoor.Pr
set_option linter.unusedSimpArgs false
set_option linter.unusedVariables false
theorem Bld.row {B b : Nat} {acc : List Int} {W W' : World} (h : Bld B b acc W) {row : Option Nat} (hg : W.grownBy W' row) (hr : ∀ k, row = some k → ∃ c t, W.heap[k]? = some (Obj.cells c t (0, 0)) ∧ t ≠ 118 ∧ t ≠ 5) : Bld B b acc W' := by
  refine h.imp ?_ ?_ <;>
    · rintro ⟨hB, v', hv, hown, hne⟩
      refine ⟨hB, v', (hg.block b (new_lt hv) (fun e => ?_)).trans hv, hown.kept hg ?_, hne⟩
      · obtain ⟨c, t, hc, h1, _⟩ := hr b e.symm
        rw [hv] at hc
        injection hc with hc
        injection hc with _ hc _
        exact h1 hc.symm
      · rcases hvo : v'.ownBlock with _ | k
        · exact .inl rfl
        · refine .inr (fun e => ?_)
          obtain ⟨c, t, hc, _, h2⟩ := hr k e.symm
          obtain ⟨c', fz, hc'⟩ := Lib.ownsRowF_kind hown k hvo
          rw [hc] at hc'
          injection hc' with hc'
          injection hc' with _ hc' _
          exact h2 hc'
set_option maxRecDepth 100000 in
set_option maxHeartbeats 4000000 in
theorem reset_calls {B b : Nat} {acc : List Int} {W : World} (h : Bld B b acc W) : Calls Tryd.prog 64 #[.pointer (some ⟨b, 0, none⟩)] W fun e w' => e = .returned (.tuple #[]) ∧ Bld B b [] w' ∧ KpB B b W w' := by
  have hB := h.at.1
  have h' : ∃ p v, W.heap[b]? = some (.cells #[p, v] 118 (0, 0)) := by
    rcases h with ⟨_, v, hv, _⟩ | ⟨_, v, hv, _⟩ <;> exact ⟨_, v, hv⟩
  obtain ⟨p, v, hv⟩ := h'
  have y0 : W.cell? ⟨b, 0, none⟩ = some p := by simp [World.cell?, hv]
  have f0 : W.frozen? ⟨b, 0, none⟩ = false := by simp [World.frozen?, hv]
  have hv1 : (W.setCell ⟨b, 0, none⟩ (.pointer none)).heap[b]? = some (.cells #[.pointer none, v] 118 (0, 0)) := by simp [World.setCell, Array.getElem?_modify, hv]
  have y1 : (W.setCell ⟨b, 0, none⟩ (.pointer none)).cell? ⟨b, 1, none⟩ = some v := by simp [World.cell?, hv1]
  have f1 : (W.setCell ⟨b, 0, none⟩ (.pointer none)).frozen? ⟨b, 1, none⟩ = false := by simp [World.frozen?, hv1]
  have hv2 : ((W.setCell ⟨b, 0, none⟩ (.pointer none)).setCell ⟨b, 1, none⟩ (.slice none 0 0)).heap[b]? = some (.cells #[.pointer none, .slice none 0 0] 118 (0, 0)) := by
    simp [World.setCell, Array.getElem?_modify, hv]
  go_enter Tryd.func64, Tryd.ntmps64
  go_wp2
  go_end0
  refine ⟨rfl, .inl ⟨hB, _, hv2, ⟨by simp [utf, Lib.byteCells], .inl ⟨rfl, by simp [utf, Lib.byteCells]⟩⟩, by simp [Value.ownBlock]⟩, ⟨?_, ?_⟩⟩
  · exact ((Below.refl B W).setCell (p := ⟨b, 0, none⟩) hB _).setCell (p := ⟨b, 1, none⟩) hB _
  · exact Lib.OthersKept.setCell (Lib.OthersKept.setCell (Lib.OthersKept.refl 5 (some b) W) ⟨b, 0, none⟩ rfl _) ⟨b, 1, none⟩ rfl _
structure RunsS (B OUT b HID END : Nat) (w : World) (o : List (List Int × Int)) (acc : List Int) (hid : Int) (W : World) : Prop where
  out : ∃ v, W.heap[OUT]? = some (.cells #[v] 23 (0, 0)) ∧ Kd.R k58 58 W B (fun k => B ≤ k) v (sRuns o)
  bld : Bld B b acc W
  hc : W.heap[HID]? = some (.cells #[.int .i64 hid] 3 (0, 0))
  ec : W.heap[END]? = some (.cells #[.func (.func 61) #[] #[.pointer (some ⟨b, 0, none⟩), .pointer (some ⟨OUT, 0, none⟩), .pointer (some ⟨HID, 0, none⟩)]] 1 (0, 0))
  bel : Below B w W
  lo : B ≤ OUT
  lh : B ≤ HID
section
variable {B OUT b HID END : Nat} {w W W' : World} {o : List (List Int × Int)} {acc acc' : List Int} {hid : Int}
theorem RunsS.below (h : RunsS B OUT b HID END w o acc hid W) (hB : B ≤ W.heap.size) (hb : Below W.heap.size W W') : RunsS B OUT b HID END w o acc hid W' := by
  obtain ⟨v, hv, hR⟩ := h.out
  exact ⟨⟨v, (hb.block _ (new_lt hv)).trans hv, Kd.R_below hR hb⟩, h.bld.below hb, (hb.block _ (new_lt h.hc)).trans h.hc, (hb.block _ (new_lt h.ec)).trans h.ec, h.bel.trans (hb.mono hB), h.lo, h.lh⟩
theorem R58_kpb {ok : Nat → Prop} {base : Nat} {v : Value} (h : Kd.R k58 58 W base ok v (sRuns o)) (hk : KpB B b W W') (hb : ∃ c, W.heap[b]? = some (Obj.cells c 118 (0, 0))) : Kd.R k58 58 W' base ok v (sRuns o) := by
  refine Kd.R_mono (Kd.R_step (Kd.R_bound h) (fun k hk' hl => ?_)) (fun k hk => hk.1)
  obtain ⟨_, _, _, q, hq, cells, hc⟩ := hk'
  obtain rfl : q = 58 := by simpa using (show q ∈ [58] from hq)
  obtain ⟨c0, hb⟩ := hb
  rw [hc]
  exact hk.cells hc (by decide) (ty_ne hc hb (by decide))
theorem RunsS.kpb (h : RunsS B OUT b HID END w o acc hid W) (hk : KpB B b W W') (hb : Bld B b acc' W') : RunsS B OUT b HID END w o acc' hid W' := by
  obtain ⟨_, c0, hc0⟩ := h.bld.at
  obtain ⟨v, hv, hR⟩ := h.out
  exact ⟨⟨v, hk.cells hv (by decide) (ty_ne hv hc0 (by decide)), R58_kpb hR hk ⟨c0, hc0⟩⟩, hb, hk.cells h.hc (by decide) (ty_ne h.hc hc0 (by decide)), hk.cells h.ec (by decide) (ty_ne h.ec hc0 (by decide)), h.bel.trans hk.bl, h.lo, h.lh⟩
end
theorem R58_ne {ok : Nat → Prop} {W : World} {o : List (List Int × Int)} {base : Nat} {v : Value} (h : Kd.R k58 58 W base ok v (sRuns o)) {k : Nat} {c : Array Value} {t : Nat} (hk : W.heap[k]? = some (Obj.cells c t (0, 0))) (ht : t ≠ 58) : some k ≠ v.ownBlock := by
  intro e
  obtain ⟨cells, hc⟩ := Kd.N_typed (Kd.R_N h) k e.symm
  rw [hk] at hc
  injection hc with hc
  injection hc with _ hc _
  exact ht hc
theorem R58_typed {ok : Nat → Prop} {W : World} {o : List (List Int × Int)} {base : Nat} {v : Value} (h : Kd.R k58 58 W base ok v (sRuns o)) : ∀ k, v.ownBlock = some k → ∃ c t, W.heap[k]? = some (Obj.cells c t (0, 0)) ∧ t = 58 := fun k e => by
  obtain ⟨cells, hc⟩ := Kd.N_typed (Kd.R_N h) k e
  exact ⟨cells, 58, hc, rfl⟩
theorem RunsS.push {B OUT b HID END : Nat} {w W W4 : World} {o o' : List (List Int × Int)} {acc : List Int} {hid : Int} {v v4 : Value} (S : RunsS B OUT b HID END w o acc hid W) (hv : W.heap[OUT]? = some (.cells #[v] 23 (0, 0))) (hR : Kd.R k58 58 W B (fun k => B ≤ k) v (sRuns o)) (hR4 : Kd.R k58 58 W4 B (fun k => B ≤ k) v4 (sRuns o')) (hB : B ≤ W.heap.size) (hg : W.grownBy W4 v.ownBlock) :
    RunsS B OUT b HID END w o' acc hid (W4.setCell ⟨OUT, 0, none⟩ v4) ∧ KpW B W (W4.setCell ⟨OUT, 0, none⟩ v4) := by
  have hv4 := (hg.block _ (new_lt hv) (R58_ne hR hv (by decide))).trans hv
  have hB4 : Below B W W4 := ⟨hg.os, hg.tape, hg.output, hg.size, fun k hk => hg.block k (Nat.lt_of_lt_of_le hk hB) (fun e => by have h1 : B ≤ k := hR.1 k e.symm; omega)⟩
  have keep : ∀ (k : Nat) (c : Array Value) (t : Nat), W.heap[k]? = some (Obj.cells c t (0, 0)) → t ≠ 58 → t ≠ 23 → (W4.setCell ⟨OUT, 0, none⟩ v4).heap[k]? = some (Obj.cells c t (0, 0)) := by
    intro k c t hk h1 h2
    have h4 := (hg.block _ (new_lt hk) (R58_ne hR hk h1)).trans hk
    exact set_other h4 (ty_ne h4 hv4 h2)
  have hgs : W4.grownBy (W4.setCell ⟨OUT, 0, none⟩ v4) (some OUT) := ⟨rfl, rfl, rfl, by simp [World.setCell], fun i hi hne => Below.heap_setCell W4 ⟨OUT, 0, none⟩ v4 i (fun e => hne (by rw [show i = OUT from e]))⟩
  have hbl : Bld B b acc (W4.setCell ⟨OUT, 0, none⟩ v4) := by
    refine (S.bld.row hg (fun k e => ?_)).row hgs (fun k e => ?_)
    · obtain ⟨c, t, h1, h2⟩ := R58_typed hR k e
      exact ⟨c, t, h1, by rw [h2]; decide, by rw [h2]; decide⟩
    · injection e with e
      subst e
      exact ⟨_, 23, hv4, by decide, by decide⟩
  have hb' : Below B W (W4.setCell ⟨OUT, 0, none⟩ v4) := hB4.setCell (p := ⟨OUT, 0, none⟩) S.lo _
  refine ⟨⟨⟨v4, set1k hv4, ?_⟩, hbl, keep _ _ _ S.hc (by decide) (by decide), keep _ _ _ S.ec (by decide) (by decide), S.bel.trans hb', S.lo, S.lh⟩, ⟨hb', fun k c ty hty hk => keep k c ty hk (by rcases hty with rfl | rfl <;> decide) (by rcases hty with rfl | rfl <;> decide)⟩⟩
  refine Kd.R_mono (Kd.R_step (Kd.R_bound hR4) (fun k hk' hl => ?_)) (fun k hk => hk.1)
  obtain ⟨_, _, _, q, hq, cells, hc⟩ := hk'
  obtain rfl : q = 58 := by simpa using (show q ∈ [58] from hq)
  rw [hc]
  exact set_other hc (ty_ne hc hv4 (by decide))
theorem byteCells_utf_nil : (Lib.byteCells (utf [])).length = 0 := rfl
theorem byteCells_utf_pos {acc : List Int} (h : acc ≠ []) : 0 < (Lib.byteCells (utf acc)).length := by
  rw [Lib.byteCells_length]
  have := (utf_len acc).1
  have := List.length_pos_iff.2 h
  omega
set_option maxRecDepth 100000 in
set_option maxHeartbeats 16000000 in
theorem end_calls {B OUT b HID END : Nat} {w W : World} {o : List (List Int × Int)} {acc : List Int} {hid : Int} (S : RunsS B OUT b HID END w o acc hid W) (hB : B ≤ W.heap.size) (ho : o.length ≤ 1048576) (hacc : acc.length ≤ 1048576) :
    Calls Tryd.prog 61 #[.pointer (some ⟨b, 0, none⟩), .pointer (some ⟨OUT, 0, none⟩), .pointer (some ⟨HID, 0, none⟩)] W fun e w' => e = .returned (.tuple #[]) ∧ RunsS B OUT b HID END w (allR o acc hid) [] hid w' ∧ KpW B W w' := by
  obtain ⟨_, c0, hc0⟩ := S.bld.at
  by_cases hz : acc = []
  · subst hz
    rw [allR_nil]
    have hl := Tryd.Builder_Len_f B b _ W S.bld
    rw [byteCells_utf_nil] at hl
    go_enter Tryd.func61, Tryd.ntmps61
    go_wp2_with (first
      | (go_at_call 62; refine hl.mono ?_; rintro e w1 ⟨rfl, rfl⟩)
      | (go_at_call 64; refine (reset_calls S.bld).mono ?_; rintro e w2 ⟨rfl, hb2, k2⟩))
    go_end0
    exact ⟨rfl, S.kpb k2 hb2, k2.kpw hc0⟩
  · have hl := Tryd.Builder_Len_f B b _ W S.bld
    obtain ⟨n, hn⟩ : ∃ n, n = (Lib.byteCells (utf acc)).length := ⟨_, rfl⟩
    have hn0 := byteCells_utf_pos hz
    rw [← hn] at hl hn0
    have dn : decide (0 < n) = true := decide_eq_true hn0
    have hall : allR o acc hid = o ++ [(acc, hid)] := by rw [allR, if_neg hz]
    rw [hall]
    obtain ⟨v, hv, hR⟩ := S.out
    obtain ⟨A, c, rfl⟩ := Kd.R_slice hR
    have hlt := new_lt hv
    have hstr : ∀ W', Below W.heap.size W W' → Calls Tryd.prog 63 #[.pointer (some ⟨b, 0, none⟩)] W' fun e w' => e = .returned (.string (txt acc)) ∧ (Bld B b acc w' ∧ KpB B b W w') := fun W' hW => by
      refine (Tryd.Builder_String_any_k B b (utf acc) W' (S.bld.below hW) (Nat.le_trans hB hW.size)).mono ?_
      rintro e w' ⟨he, h1, h2, h3⟩
      exact ⟨he, h1, (KpB.of hW hB).trans ⟨h2, h3⟩⟩
    have HL : Hid (((sRuns o).length + 1) * 24 ≤ 140737488355328) := Lib.hid (by rw [show (sRuns o).length = o.length by simp [sRuns]]; omega)
    obtain ⟨y0, g0⟩ := cells1k hv
    obtain ⟨y1, _⟩ := cells1k S.hc
    have HSTR := Lib.hid hstr
    clear hn hn0 hz hall ho hacc hstr
    go_enter Tryd.func61, Tryd.ntmps61
    go_wp2_with (go_at_call 62; refine hl.mono ?_; rintro e w1 ⟨rfl, rfl⟩)
    go_region_law (first
      | (go_simp; go_at_call 63; refine (HSTR.out _ (by (repeat first | exact Below.refl _ _ | refine Below.drew ?_))).mono ?_; rintro e w3 ⟨rfl, hb3, k3⟩; have hv3 := k3.cells hv (by decide) (ty_ne hv hc0 (by decide)); have hh3 := k3.cells S.hc (by decide) (ty_ne S.hc hc0 (by decide)); have hz0 := cells1k hv3; have hz1 := cells1k hh3; obtain ⟨z0, zf⟩ := hz0; obtain ⟨z1, _⟩ := hz1; have q0 := pw_cell_below (below_alloc (Below.refl w3.heap.size w3) (.cells #[.string (txt acc), .int .i64 hid] 58)) z0; have hR3 := R58_kpb hR k3 ⟨_, hc0⟩)
      | (refine Kd.R_append_step k58 (w0 := w1) B (by rfl) (.tmp 5) (.tmp 9) 23 58 (.agg #[.string ByteArray.empty, .int .i64 0]) 24 rfl Tryd.underlying23 info58' rfl (by decide) (by decide) (.slice A (sRuns o).length c) (sRuns o) ⟨txt acc, hid⟩ [.string (txt acc), .int .i64 hid] (fun k => B ≤ k) (fun _ => False) rfl rfl (k58_mkM _ _ _ ⟨_, _⟩) (fun _ h => h.elim) (fun k hk => Nat.le_trans (Nat.le_trans hB k3.bl.size) hk) hR3 k3.bl (Nat.le_trans hB k3.bl.size) HL.out ?_; intro v4 w4 hR4 hB4 hg4 hat4; have hsl := Kd.R_slice hR4; obtain ⟨A4, c4, hvv⟩ := hsl; subst hvv; have hv4 := (hg4.block _ (new_lt hv3) (R58_ne hR3 hv3 (by decide))).trans hv3; have hx := cells1k hv4; obtain ⟨x0, x1⟩ := hx))
    all_goals
      have hR5 : Kd.R k58 58 w4 B (fun k => B ≤ k) (.slice A4 (sRuns o ++ [(⟨txt acc, hid⟩ : S58)]).length c4) (sRuns (o ++ [(acc, hid)])) := by rw [sRuns_snoc]; exact hR4
      obtain ⟨S5, k5⟩ := (S.kpb k3 hb3).push hv3 hR3 hR5 (Nat.le_trans hB k3.bl.size) hg4
      rw [List.length_append] at S5 k5
      obtain ⟨W5, hW5⟩ : ∃ W5, w4.setCell ⟨OUT, 0, none⟩ (.slice A4 ((sRuns o).length + [(⟨txt acc, hid⟩ : S58)].length) c4) = W5 := ⟨_, rfl⟩
      rw [hW5] at S5 k5
      have hW5' : w4.setCell ⟨OUT, 0, none⟩ (.slice A4 ((sRuns o).length + 1) c4) = W5 := hW5
      rw [hW5']
      clear hW5 hW5' hR4 hR5 hat4 hg4 hv4 x0 x1 q0 z0 zf z1 hR3 hh3 hv3 y0 g0 y1 hv hR HSTR hl
      simp only [Exit.then]
      go_at_K
      go_wp2_with (go_at_call 64; refine (reset_calls S5.bld).mono ?_; rintro e w6 ⟨rfl, hb6, k6⟩)
      go_end0
      obtain ⟨_, c1, hc1⟩ := S5.bld.at
      exact ⟨rfl, S5.kpb k6 hb6, (k3.kpw hc0).trans (k5.trans (k6.kpw hc1))⟩
end Go.Proofs.YteeigokkafcaaaaDoorRope
end
section
namespace Go.Proofs.YteeigokkafcaaaaDoorRope
open Go.RowKit Go.Proofs.YteeigokkafcaaaaDoorW.PrintWords Go.Proofs.YteeigokkafcaaaaDoorW.PrintMore Go.Proofs.YteeigokkafcaaaaDoor.Pr
set_option linter.unusedSimpArgs false
set_option linter.unusedVariables false
theorem RunsS.sethid {B OUT b HID END : Nat} {w W : World} {o : List (List Int × Int)} {acc : List Int} {hid : Int} (S : RunsS B OUT b HID END w o acc hid W) (h : Int) : RunsS B OUT b HID END w o acc h (W.setCell ⟨HID, 0, none⟩ (.int .i64 h)) ∧ KpW B W (W.setCell ⟨HID, 0, none⟩ (.int .i64 h)) := by
  obtain ⟨v, hv, hR⟩ := S.out
  have hk := KpW.set (v := .int .i64 h) S.lh S.hc
  refine ⟨⟨⟨v, set_other hv (ty_ne hv S.hc (by decide)), ?_⟩, S.bld.set _ S.hc, set1k S.hc, set_other S.ec (ty_ne S.ec S.hc (by decide)), S.bel.trans hk.b, S.lo, S.lh⟩, hk⟩
  refine Kd.R_mono (Kd.R_step (Kd.R_bound hR) (fun k hk' hl => ?_)) (fun k hk => hk.1)
  obtain ⟨_, _, _, q, hq, cells, hc⟩ := hk'
  obtain rfl : q = 58 := by simpa using (show q ∈ [58] from hq)
  rw [hc]
  exact set_other hc (ty_ne hc S.hc (by decide))
set_option maxRecDepth 100000 in
set_option maxHeartbeats 16000000 in
theorem runs2_same {B OUT b HID END : Nat} {w W : World} {o : List (List Int × Int)} {acc : List Int} {h : Int} (S : RunsS B OUT b HID END w o acc h W) (hB : B ≤ W.heap.size) (at_ : Int) {rs : List Int} {A : Option Addr} {c : Nat} (hr : RunesAt W A rs) (hA : ∀ ad, A = some ad → ad.block < B) (hrn : ∀ r ∈ rs, Rn r) (hal : acc.length + rs.length ≤ 1048576) :
    Calls Tryd.prog 66 #[.int .i64 at_, .agg #[.slice A rs.length c, .int .i64 h], .pointer (some ⟨HID, 0, none⟩), .pointer (some ⟨END, 0, none⟩), .pointer (some ⟨b, 0, none⟩)] W fun e w' => e = .returned (.bool true) ∧ RunsS B OUT b HID END w o (acc ++ rs) h w' ∧ KpW B W w' := by
  have HRN := Lib.hid hrn
  have HAL := Lib.hid hal
  have bl : (rs.length : Int) ≤ 1048576 := by omega
  obtain ⟨W1, hW1⟩ : ∃ W1, W.alloc (.cells #[.slice A rs.length c, .int .i64 h] 113) = W1 := ⟨_, rfl⟩
  have hb1 : Below W.heap.size W W1 := by rw [← hW1]; exact below_alloc (Below.refl _ W) _
  have z0 : W1.cell? ⟨W.heap.size, 0, none⟩ = some (.slice A rs.length c) := by rw [← hW1]; simp
  have z1 : W1.cell? ⟨W.heap.size, 1, none⟩ = some (.int .i64 h) := by rw [← hW1]; simp
  have S1 := S.below hB hb1
  have k1 := KpW.of hb1 hB
  have y1 := (cells1k S1.hc).1
  clear hrn hal
  go_enter Tryd.func66, Tryd.ntmps66
  go_wp2
  go_loopw [21] (fun i wr => ∃ k : Nat, k ≤ rs.length ∧ i = .int .i64 (k : Int) ∧ RunsS B OUT b HID END w o (acc ++ rs.take k) h wr ∧ KpW B W wr) (fun i _ => rs.length - (intOf i).toNat)
  case atStart => exact ⟨0, Nat.zero_le _, rfl, by simpa using S1, k1⟩
  case round =>
    obtain ⟨k, hkl, rfl, hI, hK⟩ := hrel
    by_cases hlt : k < rs.length
    · obtain ⟨ad, hAd, y0⟩ := Kd.at_int (hr.kept hA hK) (k : Int) (by omega) (by omega)
      subst hAd
      have e1 : rd rs (k : Int) = rs[k] := by
        show rs.getD (k : Int).toNat 0 = rs[k]
        rw [Int.toNat_natCast, List.getD_eq_getElem?_getD, List.getElem?_eq_getElem hlt]
        rfl
      rw [e1, Int.toNat_natCast] at y0
      have hR := HRN.out _ (List.getElem_mem hlt)
      have hbt := byte_take (acc := acc) hlt
      have hlen : (Lib.byteCells (utf (acc ++ rs.take k))).length + 4 ≤ 140737488355328 := by
        have := byte_len (acc ++ rs.take k)
        rw [List.length_append, List.length_take] at this
        have := HAL.out
        (try simp only [List.length_nil] at *)
        omega
      obtain ⟨r, hr'⟩ : ∃ r, r = rs[k] := ⟨_, rfl⟩
      rw [← hr'] at y0 hR hbt
      have HBT := Lib.hid hbt
      have hBw : B ≤ wr.heap.size := Nat.le_trans hB hK.b.size
      clear hbt hr' e1
      obtain ⟨r0, r1, r2⟩ := hR
      have r3 : -2147483648 ≤ r := by omega
      have r4 : r ≤ 2147483647 := by omega
      clear r0 r1 r2
      go_wp2_with (go_at_call 67; refine (Tryd.Builder_WriteRune_k B b _ r r3 r4 _ hI.bld hlen hBw).mono ?_; rintro e w2 ⟨rfl, h2, b2, k2⟩)
      go_roundw
      case rel =>
        obtain ⟨_, c9, hc9⟩ := hI.bld.at
        have h3 : Bld B b (acc ++ rs.take (k + 1)) w2 := by unfold Bld; rw [← HBT.out]; exact .inr h2
        exact ⟨k + 1, hlt, by go_num, hI.kpb ⟨b2, k2⟩ h3, hK.trans (KpB.kpw ⟨b2, k2⟩ hc9)⟩
      case measure => simp [intOf]; omega
    · obtain rfl : k = rs.length := by omega
      rw [List.take_length] at hI
      clear hlt hkl
      have d1 : decide (rs.length < rs.length) = false := decide_eq_false (Nat.lt_irrefl _)
      go_wp2
      go_ret
      exact ⟨rfl, hI, hK⟩
set_option maxRecDepth 100000 in
set_option maxHeartbeats 16000000 in
theorem runs2_other {B OUT b HID END : Nat} {w W : World} {o : List (List Int × Int)} {acc : List Int} {hid h : Int} (S : RunsS B OUT b HID END w o acc hid W) (hne : h ≠ hid) (hB : B ≤ W.heap.size) (at_ : Int) {rs : List Int} {A : Option Addr} {c : Nat} (hr : RunesAt W A rs) (hA : ∀ ad, A = some ad → ad.block < B) (hrn : ∀ r ∈ rs, Rn r) (ho : o.length ≤ 1048576) (hac : acc.length ≤ 1048576) (hal : rs.length ≤ 1048576) :
    Calls Tryd.prog 66 #[.int .i64 at_, .agg #[.slice A rs.length c, .int .i64 h], .pointer (some ⟨HID, 0, none⟩), .pointer (some ⟨END, 0, none⟩), .pointer (some ⟨b, 0, none⟩)] W fun e w' => e = .returned (.bool true) ∧ RunsS B OUT b HID END w (allR o acc hid) rs h w' ∧ KpW B W w' := by
  have HRN := Lib.hid hrn
  have HAL := Lib.hid hal
  have bl : (rs.length : Int) ≤ 1048576 := by omega
  have dn : (h == hid) = false := beq_eq_false_iff_ne.mpr hne
  obtain ⟨W1, hW1⟩ : ∃ W1, W.alloc (.cells #[.slice A rs.length c, .int .i64 h] 113) = W1 := ⟨_, rfl⟩
  have hb1 : Below W.heap.size W W1 := by rw [← hW1]; exact below_alloc (Below.refl _ W) _
  have hbx : W1.heap[W.heap.size]? = some (.cells #[.slice A rs.length c, .int .i64 h] 113 (0, 0)) := by rw [← hW1]; exact heap_new _ _
  have z0 : W1.cell? ⟨W.heap.size, 0, none⟩ = some (.slice A rs.length c) := by rw [← hW1]; simp
  have z1 : W1.cell? ⟨W.heap.size, 1, none⟩ = some (.int .i64 h) := by rw [← hW1]; simp
  have S1 := S.below hB hb1
  have hB1 := Nat.le_trans hB hb1.size
  have k1 := KpW.of hb1 hB
  have y1 := (cells1k S1.hc).1
  have y2 := (cells1k S1.ec).1
  have hend := end_calls S1 hB1 ho hac
  have HEND := Lib.hid hend
  clear hrn hal ho hac hend hne
  go_enter Tryd.func66, Tryd.ntmps66
  go_wp2_with (go_at_call 61; refine HEND.out.mono ?_; rintro e w3 ⟨rfl, S3, k3⟩; have hbx3 := k3.n _ _ _ (.inr rfl) hbx; have hz3 := cells2 hbx3; obtain ⟨u0, u1⟩ := hz3; have hy3 := cells1k S3.hc; obtain ⟨y3, f3⟩ := hy3; have h4 := S3.sethid h; obtain ⟨S4, k4⟩ := h4; have hbx4 := k4.n _ _ _ (.inr rfl) hbx3; have hz4 := cells2 hbx4; obtain ⟨t0, t1⟩ := hz4)
  have kA := k1.trans (k3.trans k4)
  go_loopw [21] (fun i wr => ∃ k : Nat, k ≤ rs.length ∧ i = .int .i64 (k : Int) ∧ RunsS B OUT b HID END w (allR o acc hid) (([] : List Int) ++ rs.take k) h wr ∧ KpW B W wr) (fun i _ => rs.length - (intOf i).toNat)
  case atStart => exact ⟨0, Nat.zero_le _, rfl, by simpa using S4, kA⟩
  case round =>
    obtain ⟨k, hkl, rfl, hI, hK⟩ := hrel
    by_cases hlt : k < rs.length
    · obtain ⟨ad, hAd, y0⟩ := Kd.at_int (hr.kept hA hK) (k : Int) (by omega) (by omega)
      subst hAd
      have e1 : rd rs (k : Int) = rs[k] := by
        show rs.getD (k : Int).toNat 0 = rs[k]
        rw [Int.toNat_natCast, List.getD_eq_getElem?_getD, List.getElem?_eq_getElem hlt]
        rfl
      rw [e1, Int.toNat_natCast] at y0
      have hR := HRN.out _ (List.getElem_mem hlt)
      have hbt := byte_take (acc := ([] : List Int)) hlt
      have hlen : (Lib.byteCells (utf (([] : List Int) ++ rs.take k))).length + 4 ≤ 140737488355328 := by
        have := byte_len (([] : List Int) ++ rs.take k)
        rw [List.length_append, List.length_take] at this
        have := HAL.out
        (try simp only [List.length_nil] at *)
        omega
      obtain ⟨r, hr'⟩ : ∃ r, r = rs[k] := ⟨_, rfl⟩
      rw [← hr'] at y0 hR hbt
      have HBT := Lib.hid hbt
      have hBw : B ≤ wr.heap.size := Nat.le_trans hB hK.b.size
      clear hbt hr' e1
      obtain ⟨r0, r1, r2⟩ := hR
      have r3 : -2147483648 ≤ r := by omega
      have r4 : r ≤ 2147483647 := by omega
      clear r0 r1 r2
      go_wp2_with (go_at_call 67; refine (Tryd.Builder_WriteRune_k B b _ r r3 r4 _ hI.bld hlen hBw).mono ?_; rintro e w2 ⟨rfl, h2, b2, k2⟩)
      go_roundw
      case rel =>
        obtain ⟨_, c9, hc9⟩ := hI.bld.at
        have h3 : Bld B b (([] : List Int) ++ rs.take (k + 1)) w2 := by unfold Bld; rw [← HBT.out]; exact .inr h2
        exact ⟨k + 1, hlt, by go_num, hI.kpb ⟨b2, k2⟩ h3, hK.trans (KpB.kpw ⟨b2, k2⟩ hc9)⟩
      case measure => simp [intOf]; omega
    · obtain rfl : k = rs.length := by omega
      rw [List.take_length] at hI
      clear hlt hkl
      have d1 : decide (rs.length < rs.length) = false := decide_eq_false (Nat.lt_irrefl _)
      go_wp2
      go_ret
      exact ⟨rfl, hI, hK⟩
end Go.Proofs.YteeigokkafcaaaaDoorRope
end
section
namespace Go.Proofs.YteeigokkafcaaaaDoorRope
open Go.RowKit Go.Proofs.YteeigokkafcaaaaDoorW.PrintWords Go.Proofs.YteeigokkafcaaaaDoorW.PrintMore Go.Proofs.YteeigokkafcaaaaDoor.Pr
set_option linter.unusedSimpArgs false
set_option linter.unusedVariables false
theorem run_store_fn {P : Program} {w : World} (a : Addr) (m : Mode) (f : Fn) {x1 : _} {x2 : _} : (store a (.func f x1 x2) m).run P w = stored P w a (.func f x1 x2) m := run_store P w a _ m rfl
attribute [local go_sem] run_store_fn
theorem At.take {C : List (Int × Int)} {q : Nat} {s : List (Int × Int)} (h : At C q s) : C.take (q + s.length) = C.take q ++ s := by
  obtain ⟨X, Y, rfl, rfl⟩ := h
  have e1 : List.take X.length (X ++ s ++ Y) = X := by rw [List.append_assoc, List.take_left]
  have e2 : List.take (X.length + s.length) (X ++ s ++ Y) = X ++ s := by
    rw [show X.length + s.length = (X ++ s).length by simp, List.take_left]
  rw [e1, e2]
def RunsJ (B OUT b HID END : Nat) (w : World) (C : List (Int × Int)) (q : Nat) (W : World) : Prop := ∃ o acc hid, RunsQ C q o acc hid ∧ q ≤ C.length ∧ RunsS B OUT b HID END w o acc hid W
theorem see66 {B OUT b HID END : Nat} {w : World} {C : List (Int × Int)} (hC : C.length ≤ 1048576) (hN : ∀ c ∈ C, Rn c.1) (at_ : Nat) (p : Pc) (W : World) (hj : RunsJ B OUT b HID END w C at_ W) (ha : At C at_ p.cells) (hr : RunesAt W p.A p.rs) (hA : ∀ ad, p.A = some ad → ad.block < B) (hne : p.rs ≠ []) (hB : B ≤ W.heap.size) :
    Calls Tryd.prog 66 #[.int .i64 (at_ : Int), .agg #[.slice p.A p.rs.length p.c, .int .i64 p.hid], .pointer (some ⟨HID, 0, none⟩), .pointer (some ⟨END, 0, none⟩), .pointer (some ⟨b, 0, none⟩)] W fun e w' => (e = .returned (.bool true) ∧ RunsJ B OUT b HID END w C (at_ + p.rs.length) w' ∧ KpW B W w') ∨ (e = .returned (.bool false) ∧ False) := by
  obtain ⟨o, acc, hid, hq, hqC, S⟩ := hj
  have hle := ha.le
  have htk := ha.take
  have hpl : p.cells.length = p.rs.length := by simp [Pc.cells]
  rw [hpl] at hle htk
  have hrn : ∀ r ∈ p.rs, Rn r := by
    intro r hr'
    have : (r, p.hid) ∈ C := by
      obtain ⟨X, Y, hXY, _⟩ := ha
      rw [hXY]
      simp only [List.mem_append]
      exact .inl (.inr (List.mem_map.2 ⟨r, hr', rfl⟩))
    exact hN _ this
  have h1 := hq.hid
  have h2 := hq.acc
  by_cases c : p.hid = hid
  · subst c
    refine (runs2_same S hB at_ hr hA hrn (by omega)).mono ?_
    rintro e w' ⟨he, S', k'⟩
    exact .inl ⟨he, ⟨_, _, _, hq.same hne htk, hle, S'⟩, k'⟩
  · have h3 : o.length ≤ (allR o acc hid).length := by
      unfold allR
      split <;> simp
    refine (runs2_other S c hB at_ hr hA hrn (by omega) (by omega) (by omega)).mono ?_
    rintro e w' ⟨he, S', k'⟩
    exact .inl ⟨he, ⟨_, _, _, hq.other hne c htk, hle, S'⟩, k'⟩
set_option maxRecDepth 100000 in
set_option maxHeartbeats 16000000 in
theorem runs_of {K0 : Nat → Prop} {W : World} {b0 : Nat} {t : Tree} (h : RopeAt K0 W b0 t) (hsz : t.cells.length ≤ 1048576) (hN : ∀ c ∈ t.cells, Rn c.1) :
    Calls Tryd.prog 23 #[.pointer (some ⟨b0, 0, none⟩)] W fun e w' => ∃ A c L, e = .returned (.slice A (sRuns L).length c) ∧ Kd.R k58 58 w' W.heap.size (fun k => W.heap.size ≤ k) (.slice A (sRuns L).length c) (sRuns L) ∧ Few L ∧ rcells L = t.cells ∧ Below W.heap.size W w' := by
  obtain ⟨p0, hv, hE, hn, hlt⟩ := h.blk
  have ht := hE.t _ List.mem_cons_self
  have ht2 := Rpo.of (ht.rep.bound ht.good)
  have ht3 : Rpo (fun k => k < W.heap.size) W t (.pointer p0) := ht2.mono (fun k hk => hk.2)
  have y00 : W.cell? ⟨b0, 0, none⟩ = some (.pointer p0) := by simp [World.cell?, hv]
  obtain ⟨fv, hfv⟩ : ∃ fv : Value, fv = .func (.func 61) #[] #[.pointer (some ⟨W.heap.size + 1, 0, none⟩), .pointer (some ⟨W.heap.size, 0, none⟩), .pointer (some ⟨W.heap.size + 1 + 1, 0, none⟩)] := ⟨_, rfl⟩
  obtain ⟨W5, hW5⟩ : ∃ W5, ((((W.alloc (.cells #[.slice none 0 0] 23)).alloc (.cells #[.pointer none, .slice none 0 0] 118)).alloc (.cells #[.int .i64 0] 3)).alloc (.cells #[.func (.func 61) #[] #[.pointer (some ⟨W.heap.size + 1, 0, none⟩), .pointer (some ⟨W.heap.size, 0, none⟩), .pointer (some ⟨W.heap.size + 1 + 1, 0, none⟩)]] 1)) = W5 := ⟨_, rfl⟩
  have hb5 : Below W.heap.size W W5 := by rw [← hW5]; exact below_alloc (below_alloc (below_alloc (below_alloc (Below.refl _ W) _) _) _) _
  have o1 : W5.heap[W.heap.size]? = some (Obj.cells #[.slice none 0 0] 23 (0, 0)) := by
    rw [← hW5]; exact ((below_alloc (below_alloc (below_alloc (Below.refl _ _) _) _) _).block _ (by simp)).trans (heap_new W _)
  have o2 : W5.heap[W.heap.size + 1]? = some (Obj.cells #[.pointer none, .slice none 0 0] 118 (0, 0)) := by
    rw [← hW5]
    have := heap_new (W.alloc (.cells #[.slice none 0 0] 23)) (.cells #[.pointer none, .slice none 0 0] 118)
    rw [World.size_alloc] at this
    exact ((below_alloc (below_alloc (Below.refl _ _) _) _).block _ (by simp)).trans this
  have o3 : W5.heap[W.heap.size + 1 + 1]? = some (Obj.cells #[.int .i64 0] 3 (0, 0)) := by
    rw [← hW5]
    have := heap_new ((W.alloc (.cells #[.slice none 0 0] 23)).alloc (.cells #[.pointer none, .slice none 0 0] 118)) (.cells #[.int .i64 0] 3)
    rw [World.size_alloc, World.size_alloc] at this
    exact ((below_alloc (Below.refl _ _) _).block _ (by simp)).trans this
  have o4 : W5.heap[W.heap.size + 1 + 1 + 1]? = some (Obj.cells #[.func (.func 61) #[] #[.pointer (some ⟨W.heap.size + 1, 0, none⟩), .pointer (some ⟨W.heap.size, 0, none⟩), .pointer (some ⟨W.heap.size + 1 + 1, 0, none⟩)]] 1 (0, 0)) := by
    rw [← hW5]
    have := heap_new (((W.alloc (.cells #[.slice none 0 0] 23)).alloc (.cells #[.pointer none, .slice none 0 0] 118)).alloc (.cells #[.int .i64 0] 3)) (.cells #[.func (.func 61) #[] #[.pointer (some ⟨W.heap.size + 1, 0, none⟩), .pointer (some ⟨W.heap.size, 0, none⟩), .pointer (some ⟨W.heap.size + 1 + 1, 0, none⟩)]] 1)
    rwa [World.size_alloc, World.size_alloc, World.size_alloc] at this
  have S5 : RunsS W.heap.size W.heap.size (W.heap.size + 1) (W.heap.size + 1 + 1) (W.heap.size + 1 + 1 + 1) W [] [] 0 W5 :=
    ⟨⟨_, o1, Kd.R_nil _ _ _ _ _⟩, .inl ⟨Nat.le_succ _, _, o2, ⟨rfl, .inl ⟨rfl, rfl⟩⟩, by simp [Value.ownBlock]⟩, o3, o4, hb5, Nat.le_refl _, by omega⟩
  have y5 := pw_cell_below hb5 y00
  have hwk := walk_66 (B := W.heap.size) (C := t.cells) (lo := 0) (J := RunsJ W.heap.size W.heap.size (W.heap.size + 1) (W.heap.size + 1 + 1) (W.heap.size + 1 + 1 + 1) W t.cells) (Jx := fun _ => False) (k0 := .pointer (some ⟨W.heap.size + 1 + 1, 0, none⟩)) (k1 := .pointer (some ⟨W.heap.size + 1 + 1 + 1, 0, none⟩)) (k2 := .pointer (some ⟨W.heap.size + 1, 0, none⟩)) hsz (Nat.zero_le _)
    (fun at_ p W' hj _ ha hr hA _ hne _ hB' => see66 hsz hN at_ p W' hj ha hr hA hne hB')
    (fun at_ n W' hj hn => by rw [show at_ + n = at_ by omega]; exact hj)
    (fun at_ W' W'' hj hb' => by obtain ⟨o, acc, hid, hq, hqC, S⟩ := hj; exact ⟨o, acc, hid, hq, hqC, S.below (Nat.le_trans S.bel.size (Nat.le_refl _)) hb'⟩)
    t.size t (.pointer p0) W5 0 (Nat.le_refl _) (ht3.below hb5) ht.good hb5.size (At.all _) ⟨[], [], 0, RunsQ.zero _, Nat.zero_le _, S5⟩
  rw [Nat.zero_add] at hwk
  replace hwk := hwk.mono (fun e w' h => h.elim id (fun h => h.2.elim))
  have HWK := Lib.hid hwk
  have HSZ := Lib.hid hsz
  clear hwk o1 o2 o3 o4 S5 hfv fv hsz
  go_enter Tryd.func23, Tryd.ntmps23
  go_wp2_with (first
    | (go_at_call 65; refine HWK.out.mono ?_; rintro e w6 ⟨rfl, hj6, k6⟩; obtain ⟨o, acc, hid, hq, _, S6⟩ := hj6; have y6 := (cells1k S6.ec).1; have hB6 := S6.bel.size; have h1 := hq.hid; have h2 := hq.acc; have h3 : o.length ≤ (allR o acc hid).length := (by unfold allR; split <;> simp); have hend := end_calls S6 hB6 (by have := HSZ.out; omega) (by have := HSZ.out; omega); have HEND := Lib.hid hend; clear h1 h2 h3 hend)
    | (go_at_call 61; refine HEND.out.mono ?_; rintro e w7 ⟨rfl, S7, k7⟩; have ho7 := S7.out; obtain ⟨v7, hv7, hR7⟩ := ho7; have hs7 := Kd.R_slice hR7; obtain ⟨A7, c7, hvv⟩ := hs7; subst hvv; have y7 := (cells1k hv7).1))
  go_ret
  refine ⟨A7, c7, allR o acc hid, rfl, hR7, hq.few, ?_, S7.bel⟩
  rw [hq.cells, List.take_length]
theorem rope_runs {W : World} {b : Nat} {cs : List (Int × Int)} (h : RopeHas W b cs) (hsz : cs.length ≤ 1048576) (hN : ∀ c ∈ cs, Rn c.1) : Calls Tryd.prog 23 #[.pointer (some ⟨b, 0, none⟩)] W fun e w' => ∃ A c L, e = .returned (.slice A L.length c) ∧ Kd.R k58 58 w' W.heap.size (fun k => W.heap.size ≤ k) (.slice A L.length c) (sRuns L) ∧ Few L ∧ rcells L = cs ∧ Below W.heap.size W w' := by
  obtain ⟨K, t, h, rfl⟩ := h
  refine (runs_of h hsz hN).mono ?_
  rintro e w' ⟨A, c, L, he, hR, hf, hc, hb⟩
  rw [show (sRuns L).length = L.length by simp [sRuns]] at he hR
  exact ⟨A, c, L, he, hR, hf, hc, hb⟩
end Go.Proofs.YteeigokkafcaaaaDoorRope
end
section
namespace Go.Proofs.YteeigokkafcaaaaDoorRope
open Go.RowKit Go.Proofs.YteeigokkafcaaaaDoorW.PrintWords Go.Proofs.YteeigokkafcaaaaDoorW.PrintMore Go.Proofs.YteeigokkafcaaaaDoor.Pr
set_option linter.unusedSimpArgs false
set_option linter.unusedVariables false
section
variable {w W W' : World} {b : Nat} {A : Option Addr} {c : Nat} {cs cs' cs'' : List (Int × Int)}
theorem below_grown {n : Nat} (h : Below n w W) (hg : W.grownBy W' (some b)) (hb : n ≤ b) (hn : n ≤ W.heap.size) : Below n w W' :=
  ⟨hg.os.trans h.os, hg.tape.trans h.tape, hg.output.trans h.output, Nat.le_trans h.size hg.size, fun k hk => (hg.block k (Nat.lt_of_lt_of_le hk hn) (fun e => by injection e with e; omega)).trans (h.block k hk)⟩
end
end Go.Proofs.YteeigokkafcaaaaDoorRope
end
section
namespace Go.Proofs.YteeigokkafcaaaaDoorRope
open Go.RowKit Go.Proofs.YteeigokkafcaaaaDoorW.PrintWords Go.Proofs.YteeigokkafcaaaaDoorW.PrintMore Go.Proofs.YteeigokkafcaaaaDoor.Pr
set_option linter.unusedSimpArgs false
set_option linter.unusedVariables false
def BoxAt (W : World) (b : Nat) : Prop := ∃ p, W.heap[b]? = some (.cells #[.pointer p] 108 (0, 0))
theorem RopeHas.box {W : World} {b : Nat} {cs : List (Int × Int)} (h : RopeHas W b cs) : BoxAt W b := by
  obtain ⟨K, t, h, _⟩ := h
  obtain ⟨p, hv, _⟩ := h.blk
  exact ⟨p, hv⟩
end Go.Proofs.YteeigokkafcaaaaDoorRope
end
section
namespace Go.Proofs.YteeigokkafcaaaaDoor.Pr
open Go.RowKit Go.Proofs.YteeigokkafcaaaaDoorW.PrintWords Go.Proofs.YteeigokkafcaaaaDoorW.PrintLast Go.Proofs.YteeigokkafcaaaaDoorW.PrintMore
attribute [local go_sem] max2_int min2_int max_two min_two max_three min_three max_four min_four
set_option linter.unusedVariables false
set_option linter.unusedSimpArgs false
theorem eqA58 (d : Nat) (w : World) (x0 y0 : ByteArray) (x1 y1 : Int) :
  (Op.equalIn (d + 2) 58 (.agg #[.string x0, .int .i64 x1]) (.agg #[.string y0, .int .i64 y1])).run Tryd.prog w = .ok (x0.toList == y0.toList && (x1 == y1)) w := by
 refine eqA_of Tryd.underlying58 (by kernel_rfl) ?_
 refine eqf_cons (by rfl) (by go_simp; rfl) (by go_simp; rfl) (by go_simp) ?_
 exact eqf_last (by rfl) (by go_simp; rfl) (by go_simp; rfl) (by go_simp)
end Go.Proofs.YteeigokkafcaaaaDoor.Pr
end
section
namespace Go.Proofs.YteeigokkafcaaaaDoorRope
open Go.RowKit Go.Proofs.YteeigokkafcaaaaDoorW.PrintWords Go.Proofs.YteeigokkafcaaaaDoorW.PrintMore Go.Proofs.YteeigokkafcaaaaDoor.Pr
set_option linter.unusedSimpArgs false
set_option linter.unusedVariables false
theorem sRuns_len (l : List (List Int × Int)) : (sRuns l).length = l.length := by simp [sRuns]
theorem rope_runs_is {W : World} {b : Nat} {cs : List (Int × Int)} {L : List (List Int × Int)} (h : RopeHas W b cs) (hsz : cs.length ≤ 1048576) (hN : ∀ c ∈ cs, Rn c.1) (hL : Few L) (hc : rcells L = cs) : Calls Tryd.prog 23 #[.pointer (some ⟨b, 0, none⟩)] W fun e w' => ∃ A c, e = .returned (.slice A L.length c) ∧ Kd.C k58 w' A L.length (sRuns L) ∧ L.length ≤ c ∧ Below W.heap.size W w' := by
  refine (rope_runs h hsz hN).mono ?_
  rintro e w' ⟨A, c, L', he, hR, hf, hc', hb⟩
  obtain rfl := few_uniq L' L hf hL (by rw [hc', hc])
  have h1 := (Kd.R_reads' hR).2
  rw [sRuns_len] at h1
  exact ⟨A, c, he, h1.2, h1.1, hb⟩
section
variable {S : Nat → Prop} {W W' : World} {A : Option Addr} {c : Nat} {l : List (Nat × Nat)}
end
section
variable {w W W' : World} {b : Nat} {A A' : Option Addr} {c c' : Nat} {cs cs' cs'' : List (Int × Int)} {l : List (Nat × Nat)}
end
end Go.Proofs.YteeigokkafcaaaaDoorRope
end
section
namespace Go.Proofs.YteeigokkafcaaaaDoorRope
open Go.RowKit Go.Proofs.YteeigokkafcaaaaDoorW.PrintWords Go.Proofs.YteeigokkafcaaaaDoorW.PrintMore Go.Proofs.YteeigokkafcaaaaDoor.Pr
set_option linter.unusedSimpArgs false
set_option linter.unusedVariables false
theorem C58_one {W : World} {g : Nat} {rs : List Int} {h : Int} (hb : W.heap[g]? = some (.cells #[.string (txt rs), .int .i64 h] 58 (0, 0))) : Kd.C k58 W (some ⟨g, 0, none⟩) 1 (sRuns [(rs, h)]) := by
  refine ⟨rfl, by decide, fun _ => ⟨_, rfl, fun j p hj => ?_⟩⟩
  rcases j with _ | j
  · have h1 : p = (⟨txt rs, h⟩ : S58) := by simpa [sRuns] using hj.symm
    subst h1
    refine ⟨[.string (txt rs), .int .i64 h], rfl, k58_mk W ⟨txt rs, h⟩, fun i u hu => ?_⟩
    rcases i with _ | i
    · have : u = .string (txt rs) := by simpa using hu.symm
      subst this
      simp [World.cell?, Addr.add, hb]
    · rcases i with _ | i
      · have : u = .int .i64 h := by simpa using hu.symm
        subst this
        simp [World.cell?, Addr.add, hb]
      · simp at hu
  · simp [sRuns] at hj
theorem utf_rep (n : Nat) : utf (List.replicate n 97) = List.replicate n 97 := by
  induction n with
  | zero => rfl
  | succ n ih => rw [List.replicate_succ, utf_cons, ih, List.replicate_succ]; rfl
theorem push_rep : ∀ (n : Nat) (s : ByteArray), (List.replicate n (97 : Int)).foldl (fun r x => r.push (UInt8.ofNat x.toNat)) s = ⟨s.data ++ (List.replicate n (97 : UInt8)).toArray⟩ := by
  intro n
  induction n with
  | zero => intro s; simp
  | succ n ih =>
    intro s
    rw [List.replicate_succ, List.foldl_cons, ih, List.replicate_succ]
    show (⟨s.data.push 97 ++ (List.replicate n (97 : UInt8)).toArray⟩ : ByteArray) = _
    refine congrArg ByteArray.mk (Array.toList_inj.1 ?_)
    simp
theorem conv_rep {W : World} {g c n : Nat} (h : ∀ j, j < n → W.cell? ⟨g, j, none⟩ = some (.int .u8 97)) : (convert 56 9 (.slice (some ⟨g, 0, none⟩) n c)).run Tryd.prog W = .ok (.string (txt (List.replicate n 97))) W := by
  rw [run_convert_bytes_string W 56 9 5 (some ⟨g, 0, none⟩) n c Tryd.underlying56 Tryd.underlying5 Tryd.underlying9]
  have hl := run_loadCells_list (P := Tryd.prog) W ⟨g, 0, none⟩ ((List.replicate n (97 : Int)).map (Value.int .u8)) (fun j v hj => by
    rw [List.map_replicate, List.getElem?_replicate] at hj
    split at hj
    · rename_i hlt
      injection hj with hj
      rw [← hj]
      have := h j hlt
      by_cases h0 : j = 0
      · subst h0; simpa [Addr.add] using this
      · simpa [Addr.add, h0] using this
    · cases hj)
  rw [List.length_map, List.length_replicate] at hl
  rw [run_bytesToString W ⟨g, 0, none⟩ n c (List.replicate n 97) hl, push_rep, txt, utf_rep]
  congr 3
  show (#[] : Array UInt8) ++ (List.replicate n (97 : UInt8)).toArray = _
  simp
structure Solo (w W : World) (b : Nat) (cs : List (Int × Int)) : Prop where
  bel : Below w.heap.size w W
  bars : BarsAt W
  rope : RopeHas W b cs
  lb : w.heap.size ≤ b
  nz : b ≠ 0
section
variable {w W W' : World} {b : Nat} {cs cs' : List (Int × Int)}
theorem Solo.step (h : Solo w W b cs) (hb : Below W.heap.size W W') : Solo w W' b cs := ⟨h.bel.trans (hb.mono h.bel.size), h.bars.below hb, h.rope.below hb, h.lb, h.nz⟩
theorem Solo.put (h : Solo w W b cs) (hg : W.grownBy W' (some b)) (hr : RopeHas W' b cs') : Solo w W' b cs' := ⟨below_grown h.bel hg h.lb h.bel.size, h.bars.grown hg h.nz, hr, h.lb, h.nz⟩
end
theorem let97 : Let 97 := ⟨by omega, by omega, by omega, by omega, by omega, by omega, by omega, by omega⟩
theorem lets_rep (n : Nat) : Lets (List.replicate n 97) := fun r hr => by rw [List.eq_of_mem_replicate hr]; exact let97
structure GrowsIs (n : Nat) (cs0 cs1 : List (Int × Int)) : Prop where
  good : GoodRuns [(List.replicate n 97, 1)]
  c0 : rcells [(List.replicate n 97, 1)] = cs0
  l0 : cs0.length = n
  l1 : cs1.length = n + 1
  r0 : ∀ c ∈ cs0, Rn c.1
  r1 : ∀ c ∈ cs1, Rn c.1
  v1 : visR cs1 = [122]
  get : cs1[7]? = some (122, 0)
  few : Few [(List.replicate 7 97, 1), ([122], 0), (List.replicate (n - 7) 97, 1)]
  fc : rcells [(List.replicate 7 97, 1), ([122], 0), (List.replicate (n - 7) 97, 1)] = cs1
theorem grows_is {n : Nat} (hn : 7 < n) : GrowsIs n ((List.replicate n (97 : Int)).map (fun c => (c, (1 : Int)))) (insC ((List.replicate n (97 : Int)).map (fun c => (c, (1 : Int)))) 7 [122] 0) := by
  obtain ⟨cs, hcs⟩ : ∃ cs, cs = (List.replicate n (97 : Int)).map (fun c => (c, (1 : Int))) := ⟨_, rfl⟩
  rw [← hcs]
  have hl : cs.length = n := by rw [hcs]; simp
  have hr : ∀ c ∈ cs, Rn c.1 := by
    intro c hc
    rw [hcs] at hc
    obtain ⟨r, hr, rfl⟩ := List.mem_map.1 hc
    exact (lets_rep n r hr).rn
  have hv : visR cs = [] := by rw [hcs, visR_piece, if_neg (by decide)]
  have h122 : Let 122 := ⟨by omega, by omega, by omega, by omega, by omega, by omega, by omega, by omega⟩
  refine ⟨⟨fun x hx => ?_, fun i hi => by simp at hi⟩, by rw [hcs]; simp [rcells], hl, by rw [insC_len, hl]; rfl, hr, ins_rn hr (fun r hr => by rw [List.mem_singleton.1 hr]; exact h122.rn), by rw [visR_ins, hv]; simp, ?_, ⟨fun x hx => ?_, fun i hi => ?_⟩, ?_⟩
  · rw [List.mem_singleton.1 hx]
    exact ⟨fun e => by have := congrArg List.length e; simp at this; omega, lets_rep n, by show (0 : Int) ≤ 1; decide, by show (1 : Int) ≤ 1048576; decide⟩
  · have e : (cs.take 7).length = 7 := by rw [List.length_take]; omega
    rw [insC, List.append_assoc, List.getElem?_append_right (by omega), e]
    rfl
  · simp only [List.mem_cons, List.not_mem_nil, or_false] at hx
    rcases hx with rfl | rfl | rfl
    · exact fun e => by have := congrArg List.length e; simp at this
    · simp
    · exact fun e => by have := congrArg List.length e; simp at this; omega
  · rcases i with _ | i
    · simp
    · rcases i with _ | i
      · simp
      · simp at hi; omega
  · rw [insC, hcs, ← List.map_take, ← List.map_drop, List.take_replicate, List.drop_replicate, show min 7 n = 7 by omega]
    simp [rcells]
set_option maxRecDepth 100000 in
set_option maxHeartbeats 32000000 in
theorem grows_calls {w : World} (hw : BarsAt w) : Calls Tryd.prog 6 #[] w fun e w' => e = .returned (.bool true) ∧ Below w.heap.size w w' := by
  go_enter Tryd.func6, Tryd.ntmps6
  go_wp2_with (first
    | ((with_reducible refine gate_dst (N := 9) rfl ?_); refine Kd.R_make (Kd.int .u8) (w0 := w) w.heap.size 5 rfl (N := 9) rfl 56 _ _ rfl (1048575 : Int) rfl rfl Tryd.underlying56 (.int .u8 0) 1 (by kernel_rfl) rfl (by decide) (by decide) (0 : Int) (ok := fun _ => True) (okp := fun _ => True) rfl (fun _ hk => hk) trivial (by decide) (by decide) (Below.refl _ _) (Nat.le_refl _) ?_; intro v1 w1 hR1 hB1 hg1 hn1))
  obtain ⟨n, hn⟩ : ∃ n, n = (List.replicate (Int.toNat 1048575) (0 : Int)).length := ⟨_, rfl⟩
  have hn2 : n = 1048575 := by rw [hn, List.length_replicate]; rfl
  obtain ⟨bs0, hbs⟩ : ∃ bs, bs = List.replicate (Int.toNat 1048575) (0 : Int) := ⟨_, rfl⟩
  rw [← hbs] at hR1 hn
  obtain ⟨g, c, e1, hgB, hglt, hgc⟩ := Kd.R_form hR1 (by omega)
  subst e1
  rw [← hn] at hR1 ⊢
  have bn : (n : Int) ≤ 1048575 := by omega
  have HN := Lib.hid hn2
  have HL0 := Lib.hid hn.symm
  clear hbs hn hn2 hg1 hn1 hgc
  go_loopw [2] (fun v2 wr => ∃ (i : Nat) (bs : List Int), i ≤ n ∧ v2 = .int .i64 (i : Int) ∧ bs.length = n ∧ (∀ j, j < i → bs[j]? = some 97) ∧ Kd.R (Kd.int .u8) 5 wr w.heap.size (fun _ => True) (.slice (some ⟨g, 0, none⟩) n c) bs ∧ Below w.heap.size w wr) (fun v2 _ => n - (intOf v2).toNat)
  case atStart => exact ⟨0, bs0, Nat.zero_le _, rfl, HL0.out, fun j hj => by omega, hR1, hB1⟩
  case round =>
    obtain ⟨i, bs, hin, rfl, hbl, hbj, hR, hB⟩ := hrel
    clear hR1 hB1 HL0
    by_cases hlt : i < n
    · have d1 : decide (i < n) = true := decide_eq_true hlt
      have p0 : (0 ≤ (i : Int)) = True := eq_true (by omega)
      have p1 : ((i : Int) < (n : Int)) = True := eq_true (by omega)
      subst hbl
      have hc1 := Kd.R_cell (0 : Int) hR (i : Int) (by omega) (by omega)
      obtain ⟨hR2, hg2⟩ := Kd.R_put hR (i : Int) (97 : Int)
      rw [Int.toNat_natCast] at hc1 hR2 hg2
      obtain ⟨y0, f0⟩ := hc1
      have HR2 := Lib.hid hR2
      have HI := Lib.hid hlt
      have HBJ := Lib.hid hbj
      clear hR2 hg2 hR hbj hlt
      go_wp2
      go_roundw
      case rel =>
        have hlt := HI.out
        refine ⟨i + 1, bs.set i 97, hlt, by go_num, by simp, fun j hj => ?_, HR2.out, hB.setCell (p := ⟨g, i, none⟩) hgB _⟩
        rw [List.getElem?_set]
        by_cases e : i = j
        · rw [if_pos e, if_pos hlt]
        · rw [if_neg e]; exact HBJ.out j (by omega)
      case measure => have := HI.out; simp [intOf]; omega
    · obtain rfl : i = n := by omega
      have hcell : ∀ j, j < i → wr.cell? ⟨g, j, none⟩ = some (.int .u8 97) := by
        intro j hj
        have hbl' := hbl
        subst hbl
        have := (Kd.R_cell (0 : Int) hR (j : Int) (by omega) (by omega)).1
        rw [Int.toNat_natCast] at this
        rw [this]
        have e : rdOf (0 : Int) bs (j : Int) = 97 := by
          show bs.getD (j : Int).toNat 0 = 97
          rw [Int.toNat_natCast, List.getD_eq_getElem?_getD, hbj j hj]
          rfl
        rw [e]
      have hconv := conv_rep (c := c) hcell
      have h7 : 7 < i := by have := HN.out; omega
      have HG := Lib.hid (grows_is h7)
      obtain ⟨cs0, hcs0⟩ : ∃ x, x = (List.replicate i (97 : Int)).map (fun c => (c, (1 : Int))) := ⟨_, rfl⟩
      rw [← hcs0] at HG
      obtain ⟨cs1, hcs1⟩ : ∃ x, x = insC cs0 7 [122] 0 := ⟨_, rfl⟩
      rw [← hcs1] at HG
      obtain ⟨rep, hrep⟩ : ∃ x, x = List.replicate i (97 : Int) := ⟨_, rfl⟩
      have hrl : rep.length = i := by rw [hrep, List.length_replicate]
      have hrL : Lets rep := by rw [hrep]; exact lets_rep i
      have hgood := HG.out.good
      have hc0 := HG.out.c0
      rw [← hrep] at hgood hc0 hconv
      have hl0 := HG.out.l0
      have hl1 := HG.out.l1
      have hN := HN.out
      have l2 : Lets [120, 121] := by intro r hr; simp only [List.mem_cons, List.not_mem_nil, or_false] at hr; rcases hr with rfl | rfl <;> exact ⟨by omega, by omega, by omega, by omega, by omega, by omega, by omega, by omega⟩
      have l3 : Lets [122] := by intro r hr; rw [List.mem_singleton.1 hr]; exact ⟨by omega, by omega, by omega, by omega, by omega, by omega, by omega, by omega⟩
      have l4 : Lets [113] := by intro r hr; rw [List.mem_singleton.1 hr]; exact ⟨by omega, by omega, by omega, by omega, by omega, by omega, by omega, by omega⟩
      have s0 : cs0.length ≤ 1048576 := by omega
      have s1 : cs1.length = 1048576 := by omega
      have F1 : ∀ W A c, BarsAt W → Kd.C k58 W A 1 (sRuns [(rep, 1)]) → 1 ≤ c → Calls Tryd.prog 18 #[.slice A 1 c] W fun e w' => ∃ b, e = .returned (.tuple #[.pointer (some ⟨b, 0, none⟩), .int .i64 0]) ∧ W.heap.size ≤ b ∧ b ≠ 0 ∧ RopeHas w' b cs0 ∧ Below W.heap.size W w' := fun W A c hw hA hc => by
        refine (from_yes hgood (by rw [hc0]; exact s0) (by show 1 ≤ 1048576; decide) hw hA hc).mono ?_
        rintro e w' ⟨b, t, he, hb, hR, hct, hB⟩
        exact ⟨b, he, hb, by have := hw.lt; omega, ⟨_, t, hR, hct.trans hc0⟩, hB⟩
      have F2 : ∀ W b, RopeHas W b cs0 → BarsAt W → Calls Tryd.prog 33 #[.pointer (some ⟨b, 0, none⟩), .int .i64 1048575, .string ⟨#[120, 121]⟩, .int .i64 0] W fun e w' => e = .returned (.int .i64 24) ∧ Below W.heap.size W w' := fun W b h hw => rope_insert_grow h hw (at_ := 1048575) (l := [120, 121]) (by omega) l2 (by decide) s0 (by decide) (by rw [hl0, hN]; decide)
      have F3 : ∀ W b, RopeHas W b cs0 → BarsAt W → Calls Tryd.prog 33 #[.pointer (some ⟨b, 0, none⟩), .int .i64 7, .string ⟨#[122]⟩, .int .i64 0] W fun e w' => e = .returned (.int .i64 0) ∧ RopeHas w' b cs1 ∧ W.grownBy w' (some b) := fun W b h hw => by rw [hcs1]; exact rope_insert h hw (at_ := 7) (l := [122]) (by omega) l3 (by simp) (by decide) (by show cs0.length + 1 ≤ _; omega)
      have F4 : ∀ W b, RopeHas W b cs1 → Calls Tryd.prog 19 #[.pointer (some ⟨b, 0, none⟩)] W fun e w' => e = .returned (.int .i64 1048576) ∧ Below W.heap.size W w' := fun W b h => by
        have := rope_total h
        rw [s1] at this
        exact this
      have F5 : ∀ W b, RopeHas W b cs1 → Calls Tryd.prog 20 #[.pointer (some ⟨b, 0, none⟩)] W fun e w' => e = .returned (.int .i64 1) ∧ Below W.heap.size W w' := fun W b h => by
        have := rope_shown h
        rw [← visR_len cs1, HG.out.v1] at this
        exact this
      have F6 : ∀ W b, RopeHas W b cs1 → Calls Tryd.prog 30 #[.pointer (some ⟨b, 0, none⟩)] W fun e w' => e = .returned (.string ⟨#[122]⟩) ∧ Below W.heap.size W w' := fun W b h => by
        have := rope_text h (Nat.le_of_eq s1) HG.out.r1
        rw [HG.out.v1] at this
        exact this
      have F7 : ∀ W b, RopeHas W b cs1 → BarsAt W → Calls Tryd.prog 33 #[.pointer (some ⟨b, 0, none⟩), .int .i64 0, .string ⟨#[113]⟩, .int .i64 0] W fun e w' => e = .returned (.int .i64 24) ∧ Below W.heap.size W w' := fun W b h hw => rope_insert_grow h hw (at_ := 0) (l := [113]) (Nat.zero_le _) l4 (by decide) (Nat.le_of_eq s1) (by decide) (by rw [s1]; decide)
      have F8 : ∀ W b, RopeHas W b cs1 → BarsAt W → Calls Tryd.prog 33 #[.pointer (some ⟨b, 0, none⟩), .int .i64 1048576, .string ⟨#[113]⟩, .int .i64 2] W fun e w' => e = .returned (.int .i64 24) ∧ Below W.heap.size W w' := fun W b h hw => rope_insert_grow h hw (at_ := 1048576) (l := [113]) (Nat.le_of_eq s1.symm) l4 (by decide) (Nat.le_of_eq s1) (by decide) (by rw [s1]; decide)
      have F9 : ∀ W b, RopeHas W b cs1 → BarsAt W → Calls Tryd.prog 33 #[.pointer (some ⟨b, 0, none⟩), .int .i64 1048576, .string ⟨#[]⟩, .int .i64 0] W fun e w' => e = .returned (.int .i64 0) ∧ Below W.heap.size W w' := fun W b h hw => rope_insert_none h hw (at_ := 1048576) (Nat.le_of_eq s1.symm) (by decide) (Nat.le_of_eq s1)
      have F10 : ∀ W b, RopeHas W b cs1 → Calls Tryd.prog 34 #[.pointer (some ⟨b, 0, none⟩), .int .i64 7] W fun e w' => e = .returned (.tuple #[.agg #[.int .i32 122, .int .i64 0], .int .i64 0]) ∧ Below W.heap.size W w' := fun W b h => by
        have h7l : 7 < cs1.length := by omega
        have := rope_cell h (Nat.le_of_eq s1) h7l
        have e : cs1[7] = (122, 0) := by have := HG.out.get; rw [List.getElem?_eq_getElem h7l] at this; exact Option.some.inj this
        rw [e] at this
        exact this
      have F11 : ∀ W A c, BarsAt W → Kd.C k58 W A 1 (sRuns [(rep ++ [97, 97], 0)]) → 1 ≤ c → Calls Tryd.prog 18 #[.slice A 1 c] W fun e w' => e = .returned (.tuple #[.pointer none, .int .i64 24]) ∧ Below W.heap.size W w' := fun W A c hw hA hc => by
        have hg2 : GoodRuns [(rep ++ [97, 97], 0)] := ⟨fun x hx => by
          rw [List.mem_singleton.1 hx]
          refine ⟨by simp, fun r hr => ?_, by show (0 : Int) ≤ 0; decide, by show (0 : Int) ≤ 1048576; decide⟩
          rcases List.mem_append.1 hr with hr | hr
          · exact hrL r hr
          · simp only [List.mem_cons, List.not_mem_nil, or_false, or_self] at hr
            rw [hr]; exact let97, fun i hi => by simp at hi⟩
        have hl : (rcells [(rep ++ [97, 97], (0 : Int))]).length = i + 2 := by simp [rcells, hrl]
        exact from_grow hg2 (by rw [hl]; omega) (by rw [hl]; omega) (by show 1 ≤ 1048576; decide) hw hA hc
      have F12 : ∀ W b, RopeHas W b cs1 → Calls Tryd.prog 23 #[.pointer (some ⟨b, 0, none⟩)] W fun e w' => ∃ A c, e = .returned (.slice A 3 c) ∧ Below W.heap.size W w' := fun W b h => by
        refine (rope_runs_is h (Nat.le_of_eq s1) HG.out.r1 HG.out.few HG.out.fc).mono ?_
        rintro e w' ⟨A, c, he, _, _, hb⟩
        exact ⟨A, c, he, hb⟩
      obtain ⟨st, hst⟩ : ∃ st, st = txt rep := ⟨_, rfl⟩
      rw [← hst] at hconv
      have hstz : (st.size : Int) + 2 ≤ 9223372036854775807 := by
        have := (utf_len rep).2
        have e : st.size = (utf rep).length := by rw [hst, txt_size]
        omega
      have hst2 : st ++ ⟨#[97, 97]⟩ = txt (rep ++ [97, 97]) := by rw [txt_append, ← hst]; rfl
      replace F1 := Lib.hid F1
      replace F2 := Lib.hid F2
      replace F3 := Lib.hid F3
      replace F4 := Lib.hid F4
      replace F5 := Lib.hid F5
      replace F6 := Lib.hid F6
      replace F7 := Lib.hid F7
      replace F8 := Lib.hid F8
      replace F9 := Lib.hid F9
      replace F10 := Lib.hid F10
      replace F11 := Lib.hid F11
      replace F12 := Lib.hid F12
      have F4b := F4
      have F6b := F6
      have HCELL := Lib.hid hcell
      have HST := Lib.hid hst
      have HST2 := Lib.hid hst2
      have HREP := Lib.hid hrep
      have d1 : decide (i < i) = false := decide_eq_false (Nat.lt_irrefl _)
      have hwr := hw.below hB
      have hbx := heap_new wr (.cells #[.string st, .int .i64 1] 58)
      rw [hst] at hbx
      have HC1 := Lib.hid (C58_one (rs := rep) (h := 1) hbx)
      have hba := below_alloc (Below.refl wr.heap.size wr) (.cells #[.string st, .int .i64 1] 58)
      have HBA := Lib.hid hba
      rw [← hst] at HC1
      clear hbx hcs0 hcs1 hrep hrl hrL hgood hc0 hl0 hl1 hN l2 l3 l4 s0 s1 hst hst2 hcell hR hbj hbl hin hlt h7 hba
      go_wp2_with (first
        | (go_at_call 18; refine (F1.out _ _ _ (hwr.below HBA.out) HC1.out (Nat.le_refl _)).mono ?_; clear F1; rintro e w2 ⟨b, rfl, hlb, hnz, hro, hb2⟩; have S2 : Solo wr w2 b cs0 := ⟨HBA.out.trans (hb2.mono HBA.out.size), (hwr.below HBA.out).below hb2, hro, Nat.le_trans HBA.out.size hlb, hnz⟩; clear hro hb2 hlb hnz HC1 HBA)
        | (go_at_call 33; refine (F2.out _ _ S2.rope S2.bars).mono ?_; clear F2; rintro e w3 ⟨rfl, hb3⟩; have S3 := S2.step hb3; clear S2 hb3)
        | (go_at_call 33; refine (F3.out _ _ S3.rope S3.bars).mono ?_; clear F3; rintro e w4 ⟨rfl, hro, hg⟩; have S4 := S3.put hg hro; clear S3 hro hg)
        | (go_at_call 19; refine (F4.out _ _ S4.rope).mono ?_; clear F4; rintro e w5 ⟨rfl, hb5⟩; have S5 := S4.step hb5; clear S4 hb5)
        | (go_at_call 20; refine (F5.out _ _ S5.rope).mono ?_; clear F5; rintro e w6 ⟨rfl, hb6⟩; have S6 := S5.step hb6; clear S5 hb6)
        | (go_at_call 30; refine (F6.out _ _ S6.rope).mono ?_; clear F6; rintro e w7 ⟨rfl, hb7⟩; have S7 := S6.step hb7; clear S6 hb7)
        | (go_at_call 33; refine (F7.out _ _ S7.rope S7.bars).mono ?_; clear F7; rintro e w8 ⟨rfl, hb8⟩; have S8 := S7.step hb8; clear S7 hb8)
        | (go_at_call 33; refine (F8.out _ _ S8.rope S8.bars).mono ?_; clear F8; rintro e w9 ⟨rfl, hb9⟩; have S9 := S8.step hb9; clear S8 hb9)
        | (go_at_call 33; refine (F9.out _ _ S9.rope S9.bars).mono ?_; clear F9; rintro e w10 ⟨rfl, hb10⟩; have S10 := S9.step hb10; clear S9 hb10)
        | (go_at_call 34; refine (F10.out _ _ S10.rope).mono ?_; clear F10; rintro e w11 ⟨rfl, hb11⟩; have S11 := S10.step hb11; clear S10 hb11; have S12 := S11.step (below_alloc (Below.refl _ w11) (.cells #[.int .i32 122, .int .i64 0] 36)); have hbz := heap_new w11 (.cells #[.int .i32 122, .int .i64 0] 36); have hcv := conv_rep (c := c) (fun j hj => pw_cell_below S12.bel (HCELL.out j hj)); rw [← HREP.out, ← HST.out] at hcv; have S13 := S12.step (below_alloc (Below.refl _ (w11.alloc (.cells #[.int .i32 122, .int .i64 0] 36))) (.cells #[.string (st ++ ⟨#[97, 97]⟩), .int .i64 0] 58)); have h2 := heap_new (w11.alloc (.cells #[.int .i32 122, .int .i64 0] 36)) (.cells #[.string (st ++ ⟨#[97, 97]⟩), .int .i64 0] 58); have hbz2 := ((below_alloc (Below.refl _ (w11.alloc (.cells #[.int .i32 122, .int .i64 0] 36))) (.cells #[.string (st ++ ⟨#[97, 97]⟩), .int .i64 0] 58)).block _ (new_lt hbz)).trans hbz; rw [World.size_alloc, HST2.out] at h2; have HC2 := Lib.hid (C58_one (rs := rep ++ [97, 97]) (h := 0) h2); rw [← HST2.out] at HC2; clear h2 hbz S12)
        | (go_at_call 18; refine (F11.out _ _ _ S13.bars HC2.out (Nat.le_refl _)).mono ?_; clear F11 HC2; rintro e w12 ⟨rfl, hb12⟩; have S14 := S13.step hb12; have hbq := (hb12.block _ (new_lt hbz2)).trans hbz2; have hzz := cells2k hbq; obtain ⟨z0, z1⟩ := hzz; clear S13 hbz2 hbq)
        | (go_at_call 19; refine (F4b.out _ _ S14.rope).mono ?_; clear F4b; rintro e w13 ⟨rfl, hb13⟩; have S15 := S14.step hb13; clear S14)
        | (go_at_call 30; refine (F6b.out _ _ S15.rope).mono ?_; clear F6b; rintro e w14 ⟨rfl, hb14⟩; have S16 := S15.step hb14; clear S15)
        | (go_at_call 23; refine (F12.out _ _ S16.rope).mono ?_; clear F12; rintro e w15 ⟨A15, c15, rfl, hb15⟩; have S17 := S16.step hb15))
      go_ret
      exact ⟨rfl, hB.trans (S17.bel.mono hB.size)⟩
end Go.Proofs.YteeigokkafcaaaaDoorRope
end
