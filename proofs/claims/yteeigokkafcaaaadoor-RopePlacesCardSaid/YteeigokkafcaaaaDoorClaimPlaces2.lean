/- RopePlaces: for every list of pieces the call answers true: ShownBefore and TotalOf undo one another. Conditions: the listed table of bars holds what the program text lays in it (tied to the text by the card). -/
import Derived.Test.YteeigokkafcaaaaDoorClaimPlaces1
section
namespace Go.Proofs.YteeigokkafcaaaaDoorRope
open Go.RowKit Go.Proofs.YteeigokkafcaaaaDoorW.PrintWords Go.Proofs.YteeigokkafcaaaaDoorW.PrintMore Go.Proofs.YteeigokkafcaaaaDoor.Pr
set_option linter.unusedSimpArgs false
set_option linter.unusedVariables false
set_option maxRecDepth 100000 in
set_option maxHeartbeats 16000000 in
theorem places_calls {ps : List (Int × Int)} {w : World} {A : Option Addr} {c : Nat} (hA : Kd.C k97 w A ps.length ps) (hc : ps.length ≤ c) (hm : ps.length ≤ 140737488355328) (hw : BarsAt w) :
    Calls Tryd.prog 3 #[.slice A ps.length c] w fun e w' => e = .returned (.bool true) ∧ Below w.heap.size w w' := by
  have hg := runsL_good ps
  have hcl := runsL_cells ps
  have hrl := runsL_len ps
  obtain ⟨l, hl⟩ : ∃ l, l = runsL ps := ⟨_, rfl⟩
  have hruns := fun (W : World) (h : Kd.C k97 W A ps.length ps) => runs_calls h hc hm
  rw [← hl] at hg hcl hrl
  simp only [← hl] at hruns
  have hlets : ∀ x ∈ l, Lets x.1 := fun x hx => (hg.one x hx).2.1
  obtain ⟨cs, hcs⟩ : ∃ cs, cs = rcells l := ⟨_, rfl⟩
  have hb : cs.length ≤ 1048576 := by rw [hcs]; omega
  have hvl := vis_le cs
  obtain ⟨n, hn⟩ : ∃ n, n = vis cs := ⟨_, rfl⟩
  have hfull : vis (cs.take cs.length) = n := by rw [List.take_length, hn]
  have HN := Lib.hid hn
  have HL := Lib.hid hl
  have HCS := Lib.hid hcs
  have hcells := fun (W : World) (A : Option Addr) (c : Nat) (h : Kd.C k58 W A l.length (sRuns l)) => cells_calls (w := W) (c := c) hlets (by omega) (by omega) h
  have hfrom := fun (W : World) (hW : BarsAt W) (A : Option Addr) (c : Nat) (h : Kd.C k58 W A l.length (sRuns l)) (hc : l.length ≤ c) => from_yes hg (by omega) (by omega) hW h hc
  simp only [← hcs] at hcells hfrom
  rw [← hn] at hvl
  have hnb : (n : Int) ≤ 1048576 := by omega
  have hlb : (cs.length : Int) ≤ 1048576 := by omega
  have HH1 := Lib.hid hruns
  have HH2 := Lib.hid hcells
  have HH3 := Lib.hid hfrom
  have HB := Lib.hid hb
  have HV := Lib.hid hvl
  have HF := Lib.hid hfull
  clear hn hl hcs hg hlets hcl hrl hruns hcells hfrom hb hvl hfull
  have hsl : (sRuns l).length = l.length := by simp [sRuns]
  have HSL := Lib.hid hsl
  clear hsl
  go_enter Tryd.func3, Tryd.ntmps3
  go_wp2_with (first
    | (go_at_call 15; refine (HH1.out w hA).mono ?_; rintro e w1 ⟨A1, c1, rfl, hR1, hb1⟩; have hC1 : Kd.C k58 w1 A1 l.length (sRuns l) := (by have := (Kd.R_reads' hR1).2.2; rwa [HSL.out] at this); have hc1 := (Kd.R_reads' hR1).2.1)
    | (go_at_call 16; refine (HH2.out w1 A1 c1 hC1).mono ?_; rintro e w2 ⟨A2, c2, rfl, hR2, hb2⟩; have hC2 : Kd.C k36 w2 A2 cs.length (sCells cs) := (by have := (Kd.R_reads' hR2).2.2; rwa [sCells_len] at this); have hc2 := (Kd.R_reads' hR2).2.1)
    | (go_at_call 17; refine (shownS_calls (n := cs.length) (Nat.le_refl _) HB.out hC2 hc2).mono ?_; rw [HF.out]; rintro e w3 ⟨rfl, hb3⟩)
    | (go_at_call 18; refine (HH3.out w3 (hw.below (hb1.trans ((hb2.trans (hb3.mono hb2.size)).mono hb1.size))) A1 c1 (Kd.C_below hC1 (hb2.trans (hb3.mono hb2.size))) hc1).mono ?_; rintro e w4 ⟨b, t, rfl, hbl, hRo, hct, hb4⟩)
    | (go_at_call 19; refine (total_calls hRo).mono ?_; rw [hct]; rintro e w5 ⟨rfl, hb5⟩)
    | (go_at_call 20; refine (shownR_calls (hRo.below hb5)).mono ?_; rw [hct, ← HN.out]; rintro e w6 ⟨rfl, hb6⟩))
  have hRo6 := (hRo.below hb5).below hb6
  have hb36 : Below w3.heap.size w3 w6 := hb4.trans ((hb5.trans (hb6.mono hb5.size)).mono hb4.size)
  have hC6 := Kd.C_below hC2 (hb3.trans (hb36.mono hb3.size))
  have hB6 : Below w.heap.size w w6 := hb1.trans ((hb2.trans ((hb3.trans (hb36.mono hb3.size)).mono hb2.size)).mono hb1.size)
  have HCT := Lib.hid hct
  clear hA hc hm hw HH1 HH2 HH3 HSL hR1 hb1 hC1 hc1 hR2 hb2 hC2 hb3 hbl hRo hct hb4 hb5 hb6 hb36
  generalize (fun k => w3.heap.size ≤ k ∧ k ≠ b) = K at hRo6
  have hsz : t.cells.length ≤ 1048576 := by rw [HCT.out]; exact HB.out
  go_loopw [8] (fun i wr => ∃ p : Nat, p ≤ n + 1 ∧ i = .int .i64 (p : Int) ∧ Below w6.heap.size w6 wr) (fun i _ => n + 1 - (intOf i).toNat)
  case atStart => exact ⟨0, Nat.zero_le _, rfl, Below.refl _ _⟩
  case round =>
    obtain ⟨p, hp, rfl, hBr⟩ := hrel
    have hR7 := hRo6.below hBr
    by_cases hle : p ≤ n
    · have h1 := totalOf_le hR7 hsz (p := p) (by rw [HCT.out, ← HN.out]; exact hle)
      have h2 := fun (W : World) (hW : Below wr.heap.size wr W) => before_yes (hR7.below hW) hsz (nth0 cs p) (by rw [HCT.out]; exact nth0_le _ _)
      rw [HCT.out] at h1
      have e2 := vis_nth0 cs p (by rw [← HN.out]; exact hle)
      simp only [HCT.out, e2] at h2
      have t1 : decide (p ≤ n) = true := decide_eq_true hle
      have pb : (p : Int) ≤ 1048576 := by omega
      have H1 := Lib.hid h1
      have H2 := Lib.hid h2
      clear h1 h2 e2
      go_wp2_with (first
        | (go_at_call 21; refine H1.out.mono ?_; rintro e w7 ⟨rfl, hb7⟩)
        | (go_at_call 22; refine (H2.out w7 hb7).mono ?_; rintro e w8 ⟨rfl, hb8⟩))
      go_roundw
      case rel => exact ⟨p + 1, by omega, by go_num, hBr.trans ((hb7.trans (hb8.mono hb7.size)).mono hBr.size)⟩
      case measure => simp [intOf]; omega
    · have t1 : decide (p ≤ n) = false := decide_eq_false hle
      have hB7 := hB6.trans (hBr.mono hB6.size)
      have hC7 := Kd.C_below hC6 hBr
      clear hle hp hB6 hC6 hRo6
      obtain ⟨wq, hwq⟩ : ∃ wq : World, wq = wr := ⟨_, rfl⟩
      subst hwq
      go_wp2
      go_loopw [13] (fun i wx => ∃ x : Nat, x ≤ cs.length + 1 ∧ i = .int .i64 (x : Int) ∧ Below wq.heap.size wq wx) (fun i _ => cs.length + 1 - (intOf i).toNat)
      case atStart => exact ⟨0, Nat.zero_le _, rfl, Below.refl _ _⟩
      case round =>
        obtain ⟨x, hx, rfl, hBx⟩ := hrel
        have hRx := hR7.below hBx
        by_cases hle : x ≤ cs.length
        · have h1 := before_yes hRx hsz x (by rw [HCT.out]; exact hle)
          rw [HCT.out] at h1
          have hvl := vis_take_le cs x
          obtain ⟨v, hv⟩ : ∃ v, v = vis (cs.take x) := ⟨_, rfl⟩
          rw [← hv] at h1 hvl
          have h2 := fun (W : World) (hW : Below wr.heap.size wr W) => totalOf_le (hRx.below hW) hsz (p := v) (by rw [HCT.out]; exact hvl)
          simp only [HCT.out] at h2
          have hdl := nth0_le cs v
          have hdg := nth0_vis cs x hle
          rw [← hv] at hdg
          have hvd := vis_nth0 cs v hvl
          have hz : nth0 cs v < cs.length → ∃ h : nth0 cs v < cs.length, cs[nth0 cs v].2 = 0 := by
            intro hlt
            refine nth0_zero_at cs v ?_
            rcases Nat.lt_or_ge v (vis cs) with h | h
            · exact h
            · have : v = vis cs := by omega
              rw [this, nth0_end] at hlt
              omega
          obtain ⟨d, hd⟩ : ∃ d, d = nth0 cs v := ⟨_, rfl⟩
          rw [← hd] at h2 hdl hdg hvd hz
          have h3 := fun (W : World) (hW : Below wr.heap.size wr W) => shownS_calls (n := x) hle HB.out (Kd.C_below (Kd.C_below hC7 hBx) hW) hc2
          rw [← hv] at h3
          have h4 := fun (W : World) (hW : Below wr.heap.size wr W) => shownS_calls (n := d) hdl HB.out (Kd.C_below (Kd.C_below hC7 hBx) hW) hc2
          rw [hvd] at h4
          have t1 : decide (x ≤ cs.length) = true := decide_eq_true hle
          have t2 : decide (d < x) = false := decide_eq_false (by omega)
          have t3 : decide (cs.length < d) = false := decide_eq_false (by omega)
          have pb : (x : Int) ≤ 1048576 := by omega
          have H1 := Lib.hid h1
          have H2 := Lib.hid h2
          have H3 := Lib.hid h3
          have H4 := Lib.hid h4
          have tok : True := trivial
          clear h1 h2 h3 h4 hvl hdg hvd hv hd
          by_cases hdc : d < cs.length
          · obtain ⟨hd1, hd2⟩ := hz hdc
            obtain ⟨ad, hAd, xx, x1⟩ := row_cell (Kd.C_below hC7 hBx) hd1
            rw [hd2] at x1
            subst hAd
            have t4 : decide (d < cs.length) = true := decide_eq_true hdc
            have db : (d : Int) < (cs.length : Int) := by omega
            clear xx hz hdl hd2
            go_wp2_with (first
              | (go_at_call 22; refine H1.out.mono ?_; rintro e w7 ⟨rfl, hb7⟩)
              | (go_at_call 21; refine (H2.out w7 hb7).mono ?_; rintro e w8 ⟨rfl, hb8⟩)
              | (go_at_call 17; clear tok; refine (H3.out w8 (hb7.trans (hb8.mono hb7.size))).mono ?_; rintro e w9 ⟨rfl, hb9⟩)
              | (go_at_call 17; refine (H4.out w9 ((hb7.trans (hb8.mono hb7.size)).trans (hb9.mono (hb7.trans (hb8.mono hb7.size)).size))).mono ?_; rintro e w10 ⟨rfl, hb10⟩; have x2 := pw_cell_below (((hb7.trans (hb8.mono hb7.size)).trans (hb9.mono (hb7.trans (hb8.mono hb7.size)).size)).trans (hb10.mono ((hb7.trans (hb8.mono hb7.size)).trans (hb9.mono (hb7.trans (hb8.mono hb7.size)).size)).size)) x1))
            have hb11 := (hb7.trans ((hb8.trans ((hb9.trans (hb10.mono hb9.size)).mono hb8.size)).mono hb7.size))
            go_roundw
            case rel => exact ⟨x + 1, by omega, by go_num, hBx.trans (hb11.mono hBx.size)⟩
            case measure => simp [intOf]; omega
          · have t4 : decide (d < cs.length) = false := decide_eq_false hdc
            clear hz hdl
            go_wp2_with (first
              | (go_at_call 22; refine H1.out.mono ?_; rintro e w7 ⟨rfl, hb7⟩)
              | (go_at_call 21; refine (H2.out w7 hb7).mono ?_; rintro e w8 ⟨rfl, hb8⟩)
              | (go_at_call 17; clear tok; refine (H3.out w8 (hb7.trans (hb8.mono hb7.size))).mono ?_; rintro e w9 ⟨rfl, hb9⟩)
              | (go_at_call 17; refine (H4.out w9 ((hb7.trans (hb8.mono hb7.size)).trans (hb9.mono (hb7.trans (hb8.mono hb7.size)).size))).mono ?_; rintro e w10 ⟨rfl, hb10⟩))
            have hb11 := (hb7.trans ((hb8.trans ((hb9.trans (hb10.mono hb9.size)).mono hb8.size)).mono hb7.size))
            go_roundw
            case rel => exact ⟨x + 1, by omega, by go_num, hBx.trans (hb11.mono hBx.size)⟩
            case measure => simp [intOf]; omega
        · have t2 : decide (x ≤ cs.length) = false := decide_eq_false hle
          clear hle hx
          go_wp2
          go_ret
          exact ⟨rfl, hB7.trans (hBx.mono hB7.size)⟩
end Go.Proofs.YteeigokkafcaaaaDoorRope
end
