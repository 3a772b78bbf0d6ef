/- Proved: the rope that is made of runs tells just these runs, and behind any script it tells the fewest runs, of which a rope with the same cells is made; for all inputs. -/
import Derived.Test.YteeigokkafcaaaaDoorClaimRunsBack2
section
namespace Go.Proofs.YteeigokkafcaaaaDoorRope
open Go.RowKit Go.Proofs.YteeigokkafcaaaaDoorW.PrintWords Go.Proofs.YteeigokkafcaaaaDoorW.PrintMore Go.Proofs.YteeigokkafcaaaaDoor.Pr
set_option linter.unusedSimpArgs false
set_option linter.unusedVariables false
theorem visR_snoc {cs : List (Int × Int)} {i : Nat} (h : i < cs.length) : visR (cs.take (i + 1)) = visR (cs.take i) ++ if cs[i].2 = 0 then [cs[i].1] else [] := by
  rw [List.take_succ_eq_append_getElem h]
  unfold visR
  rw [List.filter_append, List.map_append]
  congr 1
  by_cases c : cs[i].2 = 0
  · simp [c]
  · simp [c]
set_option maxRecDepth 100000 in
set_option maxHeartbeats 4000000 in
theorem textS_calls {cs : List (Int × Int)} (hb : cs.length ≤ 1048576) (hN : ∀ c ∈ cs, Rn c.1) {w : World} {A : Option Addr} {c : Nat} (hA : Kd.C k36 w A cs.length (sCells cs)) : Calls Tryd.prog 32 #[.slice A cs.length c, .int .i64 0, .int .i64 (cs.length : Int)] w fun e w' => e = .returned (.string (txt (visR cs))) ∧ Below w.heap.size w w' := by
  have HB := Lib.hid hb
  have hlb : (cs.length : Int) ≤ 1048576 := by omega
  clear hb
  go_enter Tryd.func32, Tryd.ntmps32
  go_wp2
  go_loopw [7, 8] (fun s i wr => ∃ j : Nat, j ≤ cs.length ∧ i = .int .i64 (j : Int) ∧ s = .string (txt (visR (cs.take j))) ∧ Below w.heap.size w wr) (fun _ i _ => cs.length - (intOf i).toNat)
  case atStart => exact ⟨0, Nat.zero_le _, rfl, rfl, Below.refl _ _⟩
  case round =>
    obtain ⟨j, hj, rfl, rfl, hD⟩ := hrel
    by_cases hlt : j < cs.length
    · obtain ⟨ad, hAd, y0, y1⟩ := row_cell (Kd.C_below hA hD) hlt
      subst hAd
      have hsn := visR_snoc hlt
      have hr := hN _ (List.getElem_mem hlt)
      obtain ⟨⟨r, h⟩, hrh⟩ : ∃ x, cs[j] = x := ⟨_, rfl⟩
      rw [hrh] at y0 y1 hsn hr
      dsimp only at y0 y1 hsn hr
      clear hrh
      have hz1 := txt_size_le (visR (cs.take j))
      have hz3 := vis_le (cs.take j)
      rw [List.length_take] at hz3
      rw [visR_len] at hz1
      have hz2 := txt_size_le [r]
      simp only [List.length_singleton] at hz2
      have hbs : (((txt (visR (cs.take j))).size : Int) + ((txt [r]).size : Int)) ≤ 9223372036854775807 := by have := HB.out; omega
      have hen := encode_txt hr
      by_cases c0 : h = 0
      · rw [if_pos c0] at hsn
        have d0 : (h == 0) = true := beq_iff_eq.mpr c0
        have HS := Lib.hid hsn
        clear hsn hz1 hz2 hz3 c0 hr
        go_wp2
        go_roundw
        case rel => exact ⟨j + 1, hlt, by go_num, by rw [HS.out, txt_append], hD⟩
        case measure => simp [intOf]; omega
      · rw [if_neg c0, List.append_nil] at hsn
        have d0 : (h == 0) = false := beq_eq_false_iff_ne.mpr c0
        have HS := Lib.hid hsn
        clear hsn hz1 hz2 hz3 c0 hr hbs hen
        go_wp2
        go_roundw
        case rel => exact ⟨j + 1, hlt, by go_num, by rw [HS.out], hD⟩
        case measure => simp [intOf]; omega
    · obtain rfl : j = cs.length := by omega
      have d1 : decide (cs.length < cs.length) = false := decide_eq_false (Nat.lt_irrefl _)
      rw [List.take_length]
      clear hlt hj
      go_wp2
      go_ret
      exact ⟨rfl, hD⟩
end Go.Proofs.YteeigokkafcaaaaDoorRope
end
section
namespace Go.Proofs.YteeigokkafcaaaaDoorRope
open Go.RowKit Go.Proofs.YteeigokkafcaaaaDoorW.PrintWords Go.Proofs.YteeigokkafcaaaaDoorW.PrintMore Go.Proofs.YteeigokkafcaaaaDoor.Pr
set_option linter.unusedSimpArgs false
set_option linter.unusedVariables false
def RopeHas (W : World) (b : Nat) (cs : List (Int × Int)) : Prop := ∃ K t, RopeAt K W b t ∧ t.cells = cs
theorem RopeHas.below {W W' : World} {b : Nat} {cs : List (Int × Int)} (h : RopeHas W b cs) (hb : Below W.heap.size W W') : RopeHas W' b cs := by
  obtain ⟨K, t, h, hc⟩ := h
  exact ⟨K, t, h.below hb, hc⟩
theorem BarsAt.grown {W W' : World} {b : Nat} (h : BarsAt W) (hg : W.grownBy W' (some b)) (hb : b ≠ 0) : BarsAt W' := by
  have hl := h.lt
  obtain ⟨t, fr, h⟩ := h
  exact ⟨t, fr, (hg.block 0 hl (fun e => hb (by injection e with e; exact e.symm))).trans h⟩
def Row (S : Nat → Prop) (W : World) (A : Option Addr) (c : Nat) (cs : List (Int × Int)) : Prop := ∃ base, Kd.R k36 36 W base (fun k => ¬ S k) (.slice A cs.length c) (sCells cs)
section
variable {S : Nat → Prop} {W W' : World} {A : Option Addr} {c : Nat} {cs : List (Int × Int)}
theorem Row.below (h : Row S W A c cs) (hb : Below W.heap.size W W') : Row S W' A c cs := by
  obtain ⟨base, h⟩ := h
  exact ⟨base, Kd.R_below h hb⟩
theorem Row.grown {b : Nat} (h : Row S W A c cs) (hg : W.grownBy W' (some b)) (hb : S b) : Row S W' A c cs := by
  obtain ⟨base, h⟩ := h
  exact ⟨base, Kd.R_step h (fun k hk hl => hg.block k hl (fun e => hk (by injection e with e; rw [e]; exact hb)))⟩
theorem Row.rd (h : Row S W A c cs) : Kd.C k36 W A cs.length (sCells cs) := by
  obtain ⟨base, h⟩ := h
  have := (Kd.R_reads' h).2.2
  rwa [sCells_len] at this
theorem Row.cap (h : Row S W A c cs) : cs.length ≤ c := by
  obtain ⟨base, h⟩ := h
  exact (Kd.R_reads' h).2.1
theorem Row.of {n : Nat} (h : Kd.R k36 36 W n (fun k => n ≤ k) (.slice A cs.length c) (sCells cs)) (hS : ∀ k, S k → k < n ∨ W.heap.size ≤ k) : Row S W A c cs :=
  ⟨n, Kd.R_mono (Kd.R_bound h) (fun k hk hs => by rcases hS k hs with h' | h' <;> omega)⟩
end
section
variable {W : World} {b : Nat} {cs : List (Int × Int)}
theorem rope_text (h : RopeHas W b cs) (hsz : cs.length ≤ 1048576) (hN : ∀ c ∈ cs, Rn c.1) : Calls Tryd.prog 30 #[.pointer (some ⟨b, 0, none⟩)] W fun e w' => e = .returned (.string (txt (visR cs))) ∧ Below W.heap.size W w' := by
  obtain ⟨K, t, h, rfl⟩ := h
  exact text_calls h hsz hN
theorem rope_insert (h : RopeHas W b cs) (hw : BarsAt W) {at_ : Nat} {l : List Int} {hd : Int} (ha : at_ ≤ cs.length) (hl : Lets l) (hne : l ≠ []) (hh : 0 ≤ hd ∧ hd ≤ 1048576) (hsz : cs.length + l.length ≤ 1048576) : Calls Tryd.prog 33 #[.pointer (some ⟨b, 0, none⟩), .int .i64 (at_ : Int), .string (txt l), .int .i64 hd] W fun e w' => e = .returned (.int .i64 0) ∧ RopeHas w' b (insC cs at_ l hd) ∧ W.grownBy w' (some b) := by
  obtain ⟨K, t, h, rfl⟩ := h
  refine (insert_yes h hw ha hl hne hh hsz).mono ?_
  rintro e w' ⟨t', he, h', hc, hg⟩
  exact ⟨he, ⟨_, t', h', hc⟩, hg⟩
theorem rope_bump (h : RopeHas W b cs) {l : List (Nat × Nat)} {by_ : Int} (hby : by_ = 1 ∨ by_ = -1) (hN : Norm l cs.length) (hok : BumpOk cs l by_) (hsz : cs.length ≤ 1048576) {A : Option Addr} {c : Nat} (hA : Kd.C k133 W A l.length (sRng l)) (hc : l.length ≤ c) : Calls Tryd.prog 39 #[.pointer (some ⟨b, 0, none⟩), .slice A l.length c, .int .i64 by_] W fun e w' => e = .returned (.int .i64 0) ∧ RopeHas w' b (bumpC cs l by_) ∧ W.grownBy w' (some b) := by
  obtain ⟨K, t, h, rfl⟩ := h
  rcases hby with rfl | rfl
  · refine (bump_up h hN hok hsz hA hc).mono ?_
    rintro e w' ⟨t', he, h', hc, hg⟩
    exact ⟨he, ⟨_, t', h', hc⟩, hg⟩
  · refine (bump_down h hN hok hsz hA hc).mono ?_
    rintro e w' ⟨t', he, h', hc, hg⟩
    exact ⟨he, ⟨_, t', h', hc⟩, hg⟩
end
theorem ins_rn {cs : List (Int × Int)} {n : Nat} {l : List Int} {h : Int} (hc : ∀ c ∈ cs, Rn c.1) (hl : ∀ r ∈ l, Rn r) : ∀ c ∈ insC cs n l h, Rn c.1 := by
  intro c hm
  rw [insC, List.mem_append, List.mem_append] at hm
  rcases hm with (hm | hm) | hm
  · exact hc _ (List.mem_of_mem_take hm)
  · obtain ⟨r, hr, rfl⟩ := List.mem_map.1 hm
    exact hl r hr
  · exact hc _ (List.mem_of_mem_drop hm)
end Go.Proofs.YteeigokkafcaaaaDoorRope
end
section
namespace Go.Proofs.YteeigokkafcaaaaDoorRope
open Go.RowKit Go.Proofs.YteeigokkafcaaaaDoorW.PrintWords Go.Proofs.YteeigokkafcaaaaDoorW.PrintMore Go.Proofs.YteeigokkafcaaaaDoor.Pr
set_option linter.unusedSimpArgs false
set_option linter.unusedVariables false
theorem runs_c {ps : List (Int × Int)} {w : World} {A : Option Addr} {c : Nat} (hA : Kd.C k97 w A ps.length ps) (hc : ps.length ≤ c) (hm : ps.length ≤ 140737488355328) :
    Calls Tryd.prog 15 #[.slice A ps.length c] w fun e w' => ∃ A' c', e = .returned (.slice A' (runsL ps).length c') ∧ Kd.C k58 w' A' (runsL ps).length (sRuns (runsL ps)) ∧ (runsL ps).length ≤ c' ∧ Below w.heap.size w w' := by
  refine (runs_calls hA hc hm).mono ?_
  rintro e w' ⟨A', c', he, hR, hb⟩
  have h1 := (Kd.R_reads' hR).2
  rw [show (sRuns (runsL ps)).length = (runsL ps).length from by simp [sRuns]] at h1
  exact ⟨A', c', he, h1.2, h1.1, hb⟩
theorem row_c {ps : List (Int × Int)} {w : World} {A : Option Addr} {c : Nat} (hA : Kd.C k58 w A (runsL ps).length (sRuns (runsL ps))) :
    Calls Tryd.prog 16 #[.slice A (runsL ps).length c] w fun e w' => ∃ A' c', e = .returned (.slice A' (rcells (runsL ps)).length c') ∧ Row (fun b => w'.heap.size ≤ b) w' A' c' (rcells (runsL ps)) ∧ Below w.heap.size w w' := by
  have hg := runsL_good ps
  have h1 := runsL_cells ps
  have h2 := runsL_len ps
  refine (cells_calls (fun x hx => (hg.one x hx).2.1) (by omega) (by omega) hA).mono ?_
  rintro e w' ⟨A', c', he, hR, hb⟩
  exact ⟨A', c', he, Row.of hR (fun k hk => .inr hk), hb⟩
theorem Row.less {S S' : Nat → Prop} {W : World} {A : Option Addr} {c : Nat} {cs : List (Int × Int)} (h : Row S W A c cs) (hS : ∀ k, S' k → S k) : Row S' W A c cs := by
  obtain ⟨base, h⟩ := h
  exact ⟨base, Kd.R_mono h (fun k hk hs => hk (hS k hs))⟩
theorem from_c {ps : List (Int × Int)} {w : World} {A : Option Addr} {c : Nat} (hw : BarsAt w) (hA : Kd.C k58 w A (runsL ps).length (sRuns (runsL ps))) (hc : (runsL ps).length ≤ c) :
    Calls Tryd.prog 18 #[.slice A (runsL ps).length c] w fun e w' => ∃ b, e = .returned (.tuple #[.pointer (some ⟨b, 0, none⟩), .int .i64 0]) ∧ w.heap.size ≤ b ∧ b ≠ 0 ∧ RopeHas w' b (rcells (runsL ps)) ∧ Below w.heap.size w w' := by
  have h1 := runsL_cells ps
  have h2 := runsL_len ps
  refine (from_yes (runsL_good ps) (by omega) (by omega) hw hA hc).mono ?_
  rintro e w' ⟨b, t, he, hb, hR, hct, hB⟩
  exact ⟨b, he, hb, by have := hw.lt; omega, ⟨_, t, hR, hct⟩, hB⟩
theorem rcells_rn (ps : List (Int × Int)) : ∀ c ∈ rcells (runsL ps), Rn c.1 := by
  intro c hc
  unfold rcells at hc
  obtain ⟨x, hx, hc⟩ := List.mem_flatMap.1 hc
  obtain ⟨r, hr, rfl⟩ := List.mem_map.1 hc
  exact (((runsL_good ps).one x hx).2.1 r hr).rn
structure Stand (w W : World) (b : Nat) (A : Option Addr) (c : Nat) (cs cs' : List (Int × Int)) : Prop where
  bel : Below w.heap.size w W
  bars : BarsAt W
  row : Row (fun k => k = b) W A c cs
  rope : RopeHas W b cs'
  lb : w.heap.size ≤ b
  nz : b ≠ 0
section
variable {w W W' : World} {b : Nat} {A : Option Addr} {c : Nat} {cs cs' cs'' : List (Int × Int)}
theorem below_grown {n : Nat} (h : Below n w W) (hg : W.grownBy W' (some b)) (hb : n ≤ b) (hn : n ≤ W.heap.size) : Below n w W' :=
  ⟨hg.os.trans h.os, hg.tape.trans h.tape, hg.output.trans h.output, Nat.le_trans h.size hg.size, fun k hk => (hg.block k (Nat.lt_of_lt_of_le hk hn) (fun e => by injection e with e; omega)).trans (h.block k hk)⟩
theorem Stand.step (h : Stand w W b A c cs cs') (hb : Below W.heap.size W W') : Stand w W' b A c cs cs' :=
  ⟨h.bel.trans (hb.mono h.bel.size), h.bars.below hb, h.row.below hb, h.rope.below hb, h.lb, h.nz⟩
theorem Stand.put (h : Stand w W b A c cs cs') (hg : W.grownBy W' (some b)) (hr : RopeHas W' b cs'') : Stand w W' b A c cs cs'' :=
  ⟨below_grown h.bel hg h.lb h.bel.size, h.bars.grown hg h.nz, h.row.grown hg rfl, hr, h.lb, h.nz⟩
end
end Go.Proofs.YteeigokkafcaaaaDoorRope
end
section
namespace Go.Proofs.YteeigokkafcaaaaDoorRope
open Go.RowKit Go.Proofs.YteeigokkafcaaaaDoorW.PrintWords Go.Proofs.YteeigokkafcaaaaDoorW.PrintMore Go.Proofs.YteeigokkafcaaaaDoor.Pr
set_option linter.unusedSimpArgs false
set_option linter.unusedVariables false
theorem sCells_append (a b : List (Int × Int)) : sCells (a ++ b) = sCells a ++ sCells b := by simp [sCells]
theorem sCells_take (a : List (Int × Int)) (n : Nat) : sCells (a.take n) = (sCells a).take n := by simp [sCells]
theorem sCells_drop (a : List (Int × Int)) (n : Nat) : sCells (a.drop n) = (sCells a).drop n := by simp [sCells]
set_option maxRecDepth 100000 in
set_option maxHeartbeats 16000000 in
theorem put_calls {cs : List (Int × Int)} {at_ : Nat} {rs : List Int} {hd : Int} (hat : at_ ≤ cs.length) (hb : cs.length + rs.length ≤ 1048576) (hls : Lets rs) {w : World} {A : Option Addr} {c : Nat} (hA : Kd.C k36 w A cs.length (sCells cs)) (hc : cs.length ≤ c) :
    Calls Tryd.prog 52 #[.slice A cs.length c, .int .i64 (at_ : Int), .string (txt rs), .int .i64 hd] w fun e w' => ∃ A' c', e = .returned (.slice A' (insC cs at_ rs hd).length c') ∧ Kd.R k36 36 w' w.heap.size (fun b => w.heap.size ≤ b) (.slice A' (insC cs at_ rs hd).length c') (sCells (insC cs at_ rs hd)) ∧ Below w.heap.size w w' := by
  have hA' : Kd.C k36 w A (sCells cs).length (sCells cs) := by rw [sCells_len]; exact hA
  have ht := Kd.C_take hA' (m := at_) (by rw [sCells_len]; exact hat)
  have hdr := Kd.C_drop hA' (m := at_) (c := c) (by rw [sCells_len]; exact hat) (by rw [sCells_len]; exact hc)
  rw [← sCells_take, sCells_len, List.length_take, Nat.min_eq_left hat] at ht
  rw [← sCells_drop, sCells_len, List.length_drop, show k36.sz = 2 from rfl] at hdr
  have b1 : (at_ : Int) ≤ (c : Int) := by omega
  have b2 : (at_ : Int) ≤ (cs.length : Int) := by omega
  have HB := Lib.hid hb
  have HAT := Lib.hid hat
  have HC := Lib.hid hc
  have hcc : (cs.length : Int) ≤ (c : Int) := by omega
  obtain ⟨N, hN⟩ : ∃ N, N = cs.length := ⟨_, rfl⟩
  rw [← hN] at hdr b2 hcc ⊢
  have HNN := Lib.hid hN
  clear hA hA' hb hat hc hN
  go_enter Tryd.func52, Tryd.ntmps52
  have HL0 : Hid ((([] : List S36).length + at_) * 16 ≤ 140737488355328) := Lib.hid (by have := HB.out; have := HAT.out; simp only [List.length_nil]; omega)
  go_wp2_with ((with_reducible refine gate_builtin (b := .append) (xs := #[.tmp 12, .tmp 15]) rfl ?_); at_builtin; refine Kd.R_append_rows k36 (w0 := w) w.heap.size rfl (.tmp 12) (.tmp 15) 25 36 (.agg #[.int .i32 0, .int .i64 0]) 16 rfl Tryd.underlying25 info36 rfl (by decide) (by decide) _ ([] : List S36) (sCells (cs.take at_)) _ _ _ (fun b => w.heap.size ≤ b) (fun _ => False) rfl rfl (Kd.R_nil _ _ _ _ _) ht (fun _ _ h => h) (fun _ h => h.elim) (fun _ h => h) (Below.refl _ _) (Nat.le_refl _) HL0.out ?_; intro v1 w1 hR1 hB1 hg1 hat1)
  rw [List.nil_append] at hR1
  clear hg1 hat1
  obtain ⟨wo, hwo⟩ : ∃ wo : World, wo = w1 := ⟨_, rfl⟩
  subst hwo
  have hk0 := iter_start wo rs
  have hB0 : Below w.heap.size w (wo.iter (txt rs) 0) := hB1.alloc hB1.size _
  have hR0 : Kd.R k36 36 (wo.iter (txt rs) 0) w.heap.size (fun b => w.heap.size ≤ b ∧ b ≠ wo.heap.size) _ (sCells (cs.take at_)) := Kd.R_mono (Kd.R_below (Kd.R_bound hR1) ((Below.refl _ wo).alloc (Nat.le_refl _) _)) (fun b hb => ⟨hb.1, by have := hb.2.2.1; omega⟩)
  obtain ⟨pre, hpre⟩ : ∃ pre, pre = cs.take at_ := ⟨_, rfl⟩
  rw [← hpre] at hR0
  have hpl0 : pre.length = at_ := by rw [hpre, List.length_take]; have := HAT.out; omega
  have HPRE := Lib.hid hpre
  have HPL := Lib.hid hpl0
  have hwz := hB1.size
  clear hpre hR1 hB1 hpl0 ht
  go_loopw [9] (fun v9 wx => ∃ j : Nat, j ≤ rs.length ∧ IterAt wx wo.heap.size rs j ∧ Kd.R k36 36 wx w.heap.size (fun b => w.heap.size ≤ b ∧ b ≠ wo.heap.size) v9 (sCells (pieceTo pre rs hd j)) ∧ Below w.heap.size w wx) (fun _ wx => leftOf wx wo.heap.size rs)
  case atStart => exact ⟨0, Nat.zero_le _, hk0, by rw [pieceTo_zero]; exact hR0, hB0⟩
  case round =>
    obtain ⟨j, hjl, hk, hRj, hBj⟩ := hrel
    clear hk0 hB0 hR0
    by_cases hlj : j < rs.length
    · obtain ⟨W1, p, r, hnext, ⟨hx, hr⟩, hp, hi1, ho1, hs1, hbl1⟩ := next_txt (P := Tryd.prog) hls.rns hk hlj
      have hR1 : Kd.R k36 36 W1 w.heap.size (fun b => w.heap.size ≤ b ∧ b ≠ wo.heap.size) _ (sCells (pieceTo pre rs hd j)) := Kd.R_step hRj (fun b hb _ => ho1 b hb.2)
      have hB1 := hbl1 hBj hwz
      have hz1 : wo.heap.size < W1.heap.size := IterAt.below.new_lt' hi1
      have hps := pieceTo_succ (pre := pre) (h := hd) hlj hr
      have hpl := pieceTo_len pre rs hd j
      have HK := Lib.hid hk
      have HI := Lib.hid hi1
      have HPS := Lib.hid hps
      have HL : Hid (((sCells (pieceTo pre rs hd j)).length + 1) * 16 ≤ 140737488355328) := Lib.hid (by rw [sCells_len]; have := HB.out; have := HPL.out; have := HAT.out; omega)
      clear hk hp ho1 hRj hBj hi1 hr hs1 hbl1 hps hpl
      go_wp2_with ((with_reducible refine gate_builtin (b := .append) (xs := #[.tmp 22, .tmp 26]) rfl ?_); at_builtin; refine Kd.R_append k36 (w0 := w) w.heap.size rfl (.tmp 22) (.tmp 26) 25 36 (.agg #[.int .i32 0, .int .i64 0]) 16 rfl Tryd.underlying25 info36 rfl (by decide) (by decide) _ (sCells (pieceTo pre rs hd j)) ⟨r, hd⟩ [.int .i32 r, .int .i64 hd] (fun b => w.heap.size ≤ b ∧ b ≠ wo.heap.size) (fun _ => False) rfl rfl ?aP (fun _ h => h.elim) ?aF hR1 hB1 hB1.size HL.out ?_; (case aP => exact k36_mkM _ _ _ ⟨_, _⟩); (case aF => exact fun b hb => ⟨Nat.le_trans hB1.size hb, by omega⟩); intro v1 w1 hR2 hB2 hg2 hat2)
      have hI2 : IterAt w1 wo.heap.size rs (j + 1) := HI.out.grown hg2 (fun e => (hR1.1 _ e.symm).2 rfl)
      have hR3 : Kd.R k36 36 w1 w.heap.size (fun b => w.heap.size ≤ b ∧ b ≠ wo.heap.size) v1 (sCells (pieceTo pre rs hd (j + 1))) := by rw [HPS.out, sCells_snoc]; exact hR2
      have hm := left_less HK.out hI2 hlj
      clear hR1 hR2 hB1 hz1
      go_wp2
      go_roundw
      case rel => exact ⟨j + 1, hlj, hI2, hR3, hB2⟩
      case measure => exact hm
    · have hnext := fun ty => next_txt_end (P := Tryd.prog) hk (by omega) ty
      have hj2 : j = rs.length := by omega
      subst hj2
      have hpa : pieceTo pre rs hd rs.length = pre ++ rs.map (fun c => (c, hd)) := by simp [pieceTo]
      rw [hpa] at hRj
      have HL2 : Hid (((sCells (pre ++ rs.map (fun c => (c, hd)))).length + (N - at_)) * 16 ≤ 140737488355328) := Lib.hid (by rw [sCells_len, List.length_append, List.length_map]; have := HB.out; have := HPL.out; have := HAT.out; have := HNN.out; omega)
      clear hlj hjl hpa
      have hzz : wo.heap.size < wr.heap.size := IterAt.below.new_lt' hk
      by_cases hca : c = at_
      · rw [if_pos hca] at hdr
        have hz0 : N - at_ = 0 := by have := HC.out; have := HNN.out; omega
        rw [hz0] at hdr HL2
        obtain rfl : at_ = c := hca.symm
        go_wp2_with ((with_reducible refine gate_builtin (b := .append) (xs := #[.tmp 28, .tmp 31]) rfl ?_); at_builtin; refine Kd.R_append_rows k36 (w0 := w) w.heap.size rfl (.tmp 28) (.tmp 31) 25 36 (.agg #[.int .i32 0, .int .i64 0]) 16 rfl Tryd.underlying25 info36 rfl (by decide) (by decide) _ (sCells (pre ++ rs.map (fun c => (c, hd)))) (sCells (cs.drop at_)) _ _ _ (fun b => w.heap.size ≤ b ∧ b ≠ wo.heap.size) (fun _ => False) rfl rfl hRj (Kd.C_below hdr hBj) (fun _ _ h => h) (fun _ h => h.elim) ?aF hBj hBj.size HL2.out ?_; (case aF => exact fun b hb => ⟨Nat.le_trans hBj.size hb, by omega⟩); intro v1 w1 hR2 hB2 hg2 hat2)
        clear hg2 hat2
        have he : sCells (pre ++ rs.map (fun c => (c, hd))) ++ sCells (cs.drop at_) = sCells (insC cs at_ rs hd) := by rw [← sCells_append, HPRE.out]; rfl
        rw [he] at hR2
        obtain ⟨A', c', hv⟩ := Kd.R_slice hR2
        rw [sCells_len] at hv
        subst hv
        clear he
        go_wp2
        go_ret
        exact ⟨A', c', rfl, Kd.R_mono hR2 (fun b hb => hb.1), hB2⟩
      · rw [if_neg hca] at hdr
        have hca1 : (c = at_) = False := eq_false hca
        have hca2 : (c == at_) = false := beq_eq_false_iff_ne.mpr hca
        go_wp2_with ((with_reducible refine gate_builtin (b := .append) (xs := #[.tmp 28, .tmp 31]) rfl ?_); at_builtin; refine Kd.R_append_rows k36 (w0 := w) w.heap.size rfl (.tmp 28) (.tmp 31) 25 36 (.agg #[.int .i32 0, .int .i64 0]) 16 rfl Tryd.underlying25 info36 rfl (by decide) (by decide) _ (sCells (pre ++ rs.map (fun c => (c, hd)))) (sCells (cs.drop at_)) _ _ _ (fun b => w.heap.size ≤ b ∧ b ≠ wo.heap.size) (fun _ => False) rfl rfl hRj (Kd.C_below hdr hBj) (fun _ _ h => h) (fun _ h => h.elim) ?aF hBj hBj.size HL2.out ?_; (case aF => exact fun b hb => ⟨Nat.le_trans hBj.size hb, by omega⟩); intro v1 w1 hR2 hB2 hg2 hat2)
        clear hg2 hat2
        have he : sCells (pre ++ rs.map (fun c => (c, hd))) ++ sCells (cs.drop at_) = sCells (insC cs at_ rs hd) := by rw [← sCells_append, HPRE.out]; rfl
        rw [he] at hR2
        obtain ⟨A', c', hv⟩ := Kd.R_slice hR2
        rw [sCells_len] at hv
        subst hv
        clear he
        go_wp2
        go_ret
        exact ⟨A', c', rfl, Kd.R_mono hR2 (fun b hb => hb.1), hB2⟩
end Go.Proofs.YteeigokkafcaaaaDoorRope
end
section
namespace Go.Proofs.YteeigokkafcaaaaDoor.Pr
open Go.RowKit Go.Proofs.YteeigokkafcaaaaDoorW.PrintWords Go.Proofs.YteeigokkafcaaaaDoorW.PrintLast Go.Proofs.YteeigokkafcaaaaDoorW.PrintMore
attribute [local go_sem] max2_int min2_int max_two min_two max_three min_three max_four min_four
set_option linter.unusedVariables false
set_option linter.unusedSimpArgs false
theorem eqA58 (d : Nat) (w : World) (x0 y0 : ByteArray) (x1 y1 : Int) :
  (Op.equalIn (d + 2) 58 (.agg #[.string x0, .int .i64 x1]) (.agg #[.string y0, .int .i64 y1])).run Tryd.prog w = .ok (x0.toList == y0.toList && (x1 == y1)) w := by
 refine eqA_of Tryd.underlying58 (by kernel_rfl) ?_
 refine eqf_cons (by rfl) (by go_simp; rfl) (by go_simp; rfl) (by go_simp) ?_
 exact eqf_last (by rfl) (by go_simp; rfl) (by go_simp; rfl) (by go_simp)
end Go.Proofs.YteeigokkafcaaaaDoor.Pr
end
section
namespace Go.Proofs.YteeigokkafcaaaaDoor.Pr
open Go.RowKit Go.Proofs.YteeigokkafcaaaaDoorW.PrintWords Go.Proofs.YteeigokkafcaaaaDoorW.PrintLast Go.Proofs.YteeigokkafcaaaaDoorW.PrintMore
attribute [local go_sem] max2_int min2_int max_two min_two max_three min_three max_four min_four
set_option linter.unusedVariables false
set_option linter.unusedSimpArgs false
attribute [local go_sem high] eqA58
mutual
def redraftlaw03_chosen.l0 : Nat → List (S36) → Int → Int → Bool → List (S133) → Int → Option ((List (S133)))
 | 0, _, _, _, _, _, _ => none
 | k + 1, x0, x1, x2, x3, x9, x10 => if x10 < (x0.length : Int) then ((redraftlaw03_rest.f x1 7).bind fun t164 => ((redraftlaw03_rest.f x2 11).bind fun t165 => ((redraftlaw03_rest.f (wrap64 ((wrap64 (x10 * t164)) + t165)) 11).bind fun t166 => (if t166 < 5 then (if x3 = true then (if 0 ≤ x10 then (redraftlaw03_chosen.j1 k x0 x1 x2 x3 x9 x10 (((rd_T36 x0 x10).f1) == 0)) else (none)) else (redraftlaw03_chosen.j1 k x0 x1 x2 x3 x9 x10 false)) else (redraftlaw03_chosen.j1 k x0 x1 x2 x3 x9 x10 true))))) else (some x9)
def redraftlaw03_chosen.j1 : Nat → List (S36) → Int → Int → Bool → List (S133) → Int → Bool → Option ((List (S133)))
 | 0, _, _, _, _, _, _, _ => none
 | k + 1, x0, x1, x2, x3, x9, x10, x40 => if x40 = true then (redraftlaw03_chosen.l0 k x0 x1 x2 x3 x9 (wrap64 (x10 + 1))) else (if (x9.length : Int) > 0 then (if 0 ≤ (wrap64 ((x9.length : Int) - 1)) then (if (wrap64 ((x9.length : Int) - 1)) < (x9.length : Int) then (if ((rd_T133 x9 (wrap64 ((x9.length : Int) - 1))).f1) = x10 then (redraftlaw03_chosen.l0 k x0 x1 x2 x3 (x9.set ((wrap64 ((x9.length : Int) - 1)) : Int).toNat (⟨(rd_T133 x9 (wrap64 ((x9.length : Int) - 1))).f0, wrap64 (x10 + 1)⟩ : S133)) (wrap64 (x10 + 1))) else (if x9.length < 8796093022208 then (redraftlaw03_chosen.l0 k x0 x1 x2 x3 (x9 ++ [(⟨x10, wrap64 (x10 + 1)⟩ : S133)]) (wrap64 (x10 + 1))) else (none))) else (none)) else (none)) else (if x9.length < 8796093022208 then (redraftlaw03_chosen.l0 k x0 x1 x2 x3 (x9 ++ [(⟨x10, wrap64 (x10 + 1)⟩ : S133)]) (wrap64 (x10 + 1))) else (none)))
end
def redraftlaw03_chosen.f (k : Nat) (l0 : List (S36)) (a1 : Int) (a2 : Int) (a3 : Bool) : Option ((List (S133))) := redraftlaw03_chosen.l0 k l0 a1 a2 a3 ([] : List (S133)) 0
theorem redraftlaw03_chosen.mono_l : ∀ k, (∀ y0 y1 y2 y3 y4 y5, LeO (redraftlaw03_chosen.l0 k y0 y1 y2 y3 y4 y5) (redraftlaw03_chosen.l0 (k + 1) y0 y1 y2 y3 y4 y5)) ∧ (∀ y0 y1 y2 y3 y4 y5 y6, LeO (redraftlaw03_chosen.j1 k y0 y1 y2 y3 y4 y5 y6) (redraftlaw03_chosen.j1 (k + 1) y0 y1 y2 y3 y4 y5 y6))
 | 0 => ⟨fun _ _ _ _ _ _ r h => by simp [redraftlaw03_chosen.l0] at h, fun _ _ _ _ _ _ _ r h => by simp [redraftlaw03_chosen.j1] at h⟩
 | k + 1 => by
  obtain ⟨ih0, ih1⟩ := redraftlaw03_chosen.mono_l k
  refine ⟨?_, ?_⟩
  ·intro y0 y1 y2 y3 y4 y5
   unfold redraftlaw03_chosen.l0
   repeat' first
   | (with_reducible exact ih0 _ _ _ _ _ _)
   | (with_reducible exact ih1 _ _ _ _ _ _ _)
   | (with_reducible exact LeO.refl _)
   | (with_reducible exact LeO.none _)
   | (with_reducible refine LeO.ite ?_ ?_)
   | (with_reducible refine LeO.bind ?_ (fun _ => ?_))
   | exact ih0 _ _ _ _ _ _
   | exact ih1 _ _ _ _ _ _ _
   | exact LeO.none _
   | refine LeO.ite ?_ ?_
   | refine LeO.bind ?_ (fun _ => ?_)
  ·intro y0 y1 y2 y3 y4 y5 y6
   unfold redraftlaw03_chosen.j1
   repeat' first
   | (with_reducible exact ih0 _ _ _ _ _ _)
   | (with_reducible exact ih1 _ _ _ _ _ _ _)
   | (with_reducible exact LeO.refl _)
   | (with_reducible exact LeO.none _)
   | (with_reducible refine LeO.ite ?_ ?_)
   | (with_reducible refine LeO.bind ?_ (fun _ => ?_))
   | exact ih0 _ _ _ _ _ _
   | exact ih1 _ _ _ _ _ _ _
   | exact LeO.none _
   | refine LeO.ite ?_ ?_
   | refine LeO.bind ?_ (fun _ => ?_)
theorem redraftlaw03_chosen.mono : ∀ a0 a1 a2 a3 k, LeO (redraftlaw03_chosen.f k a0 a1 a2 a3) (redraftlaw03_chosen.f (k + 1) a0 a1 a2 a3) := by
 intro a0 a1 a2 a3 k
 obtain ⟨ih0, ih1⟩ := redraftlaw03_chosen.mono_l k
 unfold redraftlaw03_chosen.f
 repeat' first
   | (with_reducible exact ih0 _ _ _ _ _ _)
   | (with_reducible exact ih1 _ _ _ _ _ _ _)
   | (with_reducible exact LeO.refl _)
   | (with_reducible exact LeO.none _)
   | (with_reducible refine LeO.ite ?_ ?_)
   | (with_reducible refine LeO.bind ?_ (fun _ => ?_))
   | exact ih0 _ _ _ _ _ _
   | exact ih1 _ _ _ _ _ _ _
   | exact LeO.none _
   | refine LeO.ite ?_ ?_
   | refine LeO.bind ?_ (fun _ => ?_)
set_option maxHeartbeats 8000000 in
set_option maxRecDepth 100000 in
theorem redraftlaw03_chosen.calls (k : Nat) (A0 : Option Addr) (c0 : Nat) (l0 : List (S36)) (a1 : Int) (a2 : Int) (a3 : Bool) (r : List (S133)) (w : World) (hr0 : Kd.C k36 w A0 l0.length l0) (hc0 : l0.length ≤ c0) (h : redraftlaw03_chosen.f k l0 a1 a2 a3 = some r) :
  Calls Tryd.prog 68 #[.slice A0 l0.length c0, .int .i64 a1, .int .i64 a2, .bool a3] w fun e w' => ∃ v0_ : Value, e = .returned (v0_) ∧ Kd.R k133 133 w' w.heap.size (fun _ => True) v0_ r ∧ Below w.heap.size w w' := by
 have hu133 := Tryd.underlying133
 have HR0 := Aside0.mk hr0
 have HC0 := Aside0.mk hc0
 clear hr0 hc0
 have HB := Aside0.mk (Below.refl w.heap.size w)
 have H : (redraftlaw03_chosen.l0 k l0 a1 a2 a3 ([] : List (S133)) 0) = some r := h
 clear h
 have H' := Aside0.mk H
 clear H
 go_enter Tryd.func68, Tryd.ntmps68
 go_wp2
 go_loopg [9, 10] k (fun kq v9 v10 w' => ∃ (x9_1 : List (S133)) (x10_1 : Int), v10 = .int .i64 x10_1 ∧ Aside0 (redraftlaw03_chosen.l0 kq l0 a1 a2 a3 x9_1 x10_1 = some r) ∧ Aside0 (kq ≤ k) ∧ Aside0 (Kd.R k133 133 w' w.heap.size (fun _ => True) v9 x9_1) ∧ Aside0 (Below w.heap.size w w'))
 case atStart => exact ⟨(([] : List (S133))), (0), (by first | rfl | (simp; done) | (simp [*]; done)), H', ⟨Nat.le_refl _⟩, ⟨by first | exact Kd.R_nil _ _ _ _ _ | exact Kd.N_nil _ _ _ _ _ | exact Kd.V_nil _ _ _ _ _ | exact Kd.Q_nil _ _ _ _ _ | exact Kd.S_nil _ _ _ _ _⟩, ⟨by repeat (first | (with_reducible first | exact HB.out | apply below_alloc | apply pw_below_drewN | apply below_drew1) | exact HB.out)⟩⟩
 case round =>
  clear H'
  try clear p2
  obtain ⟨x9_1, x10_1, rfl, HA, HK1, HO_9, HB⟩ := hrel
  cases gk with
  | zero => exact absurd HA.out (by simp [redraftlaw03_chosen.l0])
  | succ k1 =>
   have H := HA.out
   clear HA
   simp only [redraftlaw03_chosen.l0] at H
   by_cases c5 : x10_1 < (l0.length : Int)
   ·rw [if_pos c5] at H
    have c5b0 : decide (x10_1 < (l0.length : Int)) = true := decide_eq_true c5
    clear c5
    replace H := Option.bind_eq_some_iff.mp H
    obtain ⟨t164, A60, H⟩ := H
    replace H : ((redraftlaw03_rest.f a2 11).bind fun t165 => ((redraftlaw03_rest.f (wrap64 ((wrap64 (x10_1 * t164)) + t165)) 11).bind fun t166 => (if t166 < 5 then (if a3 = true then (if 0 ≤ x10_1 then (redraftlaw03_chosen.j1 k1 l0 a1 a2 a3 x9_1 x10_1 (((rd_T36 l0 x10_1).f1) == 0)) else (none)) else (redraftlaw03_chosen.j1 k1 l0 a1 a2 a3 x9_1 x10_1 false)) else (redraftlaw03_chosen.j1 k1 l0 a1 a2 a3 x9_1 x10_1 true)))) = some r := H
    have A6 := Aside0.mk A60
    clear A60
    replace H := Option.bind_eq_some_iff.mp H
    obtain ⟨t165, A70, H⟩ := H
    replace H : ((redraftlaw03_rest.f (wrap64 ((wrap64 (x10_1 * t164)) + t165)) 11).bind fun t166 => (if t166 < 5 then (if a3 = true then (if 0 ≤ x10_1 then (redraftlaw03_chosen.j1 k1 l0 a1 a2 a3 x9_1 x10_1 (((rd_T36 l0 x10_1).f1) == 0)) else (none)) else (redraftlaw03_chosen.j1 k1 l0 a1 a2 a3 x9_1 x10_1 false)) else (redraftlaw03_chosen.j1 k1 l0 a1 a2 a3 x9_1 x10_1 true))) = some r := H
    have A7 := Aside0.mk A70
    clear A70
    replace H := Option.bind_eq_some_iff.mp H
    obtain ⟨t166, A80, H⟩ := H
    replace H : (if t166 < 5 then (if a3 = true then (if 0 ≤ x10_1 then (redraftlaw03_chosen.j1 k1 l0 a1 a2 a3 x9_1 x10_1 (((rd_T36 l0 x10_1).f1) == 0)) else (none)) else (redraftlaw03_chosen.j1 k1 l0 a1 a2 a3 x9_1 x10_1 false)) else (redraftlaw03_chosen.j1 k1 l0 a1 a2 a3 x9_1 x10_1 true)) = some r := H
    have A8 := Aside0.mk A80
    clear A80
    have HC9 := Aside0.mk H
    clear H
    go_upto_region 6 with (first | ((with_reducible refine gate_callee (f := 28) rfl ?_); refine goesL_ (some 21) rfl rfl Tryd.func28 (by kernel_rfl) rfl #[.int .i64 a1, .int .i64 7] rfl (by (try simp only [List.map_toArray, List.map_cons, List.map_nil]); first | done | rfl | (simp only [List.length_drop, List.length_take]; rfl)) ?_; (with_reducible refine (redraftlaw03_rest.calls a1 7 t164 _ A6.out).mono ?_); rintro e w' ⟨rfl, ⟨nd, rfl⟩⟩; refine ⟨_, rfl, ?_⟩) | ((with_reducible refine gate_callee (f := 28) rfl ?_); refine goesL_ (some 24) rfl rfl Tryd.func28 (by kernel_rfl) rfl #[.int .i64 a2, .int .i64 11] rfl (by (try simp only [List.map_toArray, List.map_cons, List.map_nil]); first | done | rfl | (simp only [List.length_drop, List.length_take]; rfl)) ?_; (with_reducible refine (redraftlaw03_rest.calls a2 11 t165 _ A7.out).mono ?_); rintro e w' ⟨rfl, ⟨nd, rfl⟩⟩; refine ⟨_, rfl, ?_⟩) | ((with_reducible refine gate_callee (f := 28) rfl ?_); refine goesL_ (some 26) rfl rfl Tryd.func28 (by kernel_rfl) rfl #[.int .i64 (wrap64 ((wrap64 (x10_1 * t164)) + t165)), .int .i64 11] rfl (by (try simp only [List.map_toArray, List.map_cons, List.map_nil]); first | done | rfl | (simp only [List.length_drop, List.length_take]; rfl)) ?_; (with_reducible refine (redraftlaw03_rest.calls (wrap64 ((wrap64 (x10_1 * t164)) + t165)) 11 t166 _ A8.out).mono ?_); rintro e w' ⟨rfl, ⟨nd, rfl⟩⟩; refine ⟨_, rfl, ?_⟩))
    (try simp only [Act.put, List.setIfInBounds_toArray, List.set_cons_zero, List.set_cons_succ])
    go_cut [11, 40] (fun v11 v40 wc => ∃ (kq : Nat) (x40_8 : Bool), v40 = .bool x40_8 ∧ Aside0 (redraftlaw03_chosen.j1 kq l0 a1 a2 a3 x9_1 x10_1 x40_8 = some r) ∧ Aside0 (kq ≤ k1) ∧ Aside0 (Kd.R k133 133 wc w.heap.size (fun _ => True) u9 x9_1) ∧ Aside0 (Below w.heap.size w wc))
    case first =>
     have H := HC9.out
     clear HC9
     by_cases c10 : t166 < 5
     ·rw [if_pos c10] at H
      have c10b0 : decide (t166 < 5) = true := decide_eq_true c10
      clear c10
      (first | rw [c10b0] | (simp only [i64_w, i32_w]; rw [c10b0]) | skip)
      by_cases c11 : a3 = true
      ·subst c11
       have H1 : (if 0 ≤ x10_1 then (redraftlaw03_chosen.j1 k1 l0 a1 a2 true x9_1 x10_1 (((rd_T36 l0 x10_1).f1) == 0)) else (none)) = some r := by rw [if_pos rfl] at H; exact H
       clear H
       have H := H1
       clear H1
       by_cases c12 : 0 ≤ x10_1
       ·rw [if_pos c12] at H
        have c12b0 : decide (0 ≤ x10_1) = true := decide_eq_true c12
        clear c12
        have H' := Aside0.mk H
        clear H
        have p167 : 0 ≤ (x10_1 : Int) := of_decide_eq_true (by first | (with_reducible assumption) | assumption)
        have q167 : x10_1 < (l0.length : Int) := of_decide_eq_true (by first | (with_reducible assumption) | assumption)
        obtain ⟨ad167, e167, hx167_0, hx167_1⟩ := at_T36 HR0.out x10_1 p167 q167
        cases e167
        replace hx167_0 := (HB.out.cell (World.block_lt_of_cell? w _ hx167_0)).trans hx167_0
        replace hx167_1 := (HB.out.cell (World.block_lt_of_cell? w _ hx167_1)).trans hx167_1
        replace p167 := eq_true p167
        replace q167 := eq_true q167
        go_wp2
        go_meet
        case rel => exact ⟨_, ((((rd_T36 l0 x10_1).f1) == 0)), (by first | rfl | (simp; done) | (simp [*]; done)), H', ⟨by have := HK1.out; first | omega | exact Nat.le_refl _⟩, ⟨by (with_reducible repeat (first | apply Kd.R_alloc | apply Kd.R_drewN | apply Kd.R_drew)); exact HO_9.out⟩, ⟨by repeat (first | (with_reducible first | exact HB.out | apply below_alloc | apply pw_below_drewN | apply below_drew1) | exact HB.out)⟩⟩
       ·rw [if_neg c12] at H
        exact absurd H (by simp)
      ·replace c11 := Bool.eq_false_iff.mpr c11
       subst c11
       have H1 : (redraftlaw03_chosen.j1 k1 l0 a1 a2 false x9_1 x10_1 false) = some r := by rw [if_neg (show ¬ (false = true) by decide)] at H; exact H
       clear H
       have H := H1
       clear H1
       have H' := Aside0.mk H
       clear H
       go_wp2
       go_meet
       case rel => exact ⟨_, (false), (by first | rfl | (simp; done) | (simp [*]; done)), H', ⟨by have := HK1.out; first | omega | exact Nat.le_refl _⟩, ⟨by (with_reducible repeat (first | apply Kd.R_alloc | apply Kd.R_drewN | apply Kd.R_drew)); exact HO_9.out⟩, ⟨by repeat (first | (with_reducible first | exact HB.out | apply below_alloc | apply pw_below_drewN | apply below_drew1) | exact HB.out)⟩⟩
     ·rw [if_neg c10] at H
      have c10b0 : decide (t166 < 5) = false := decide_eq_false c10
      clear c10
      (first | rw [c10b0] | (simp only [i64_w, i32_w]; rw [c10b0]) | skip)
      have H' := Aside0.mk H
      clear H
      go_wp2
      go_meet
      case rel => exact ⟨_, (true), (by first | rfl | (simp; done) | (simp [*]; done)), H', ⟨by have := HK1.out; first | omega | exact Nat.le_refl _⟩, ⟨by (with_reducible repeat (first | apply Kd.R_alloc | apply Kd.R_drewN | apply Kd.R_drew)); exact HO_9.out⟩, ⟨by repeat (first | (with_reducible first | exact HB.out | apply below_alloc | apply pw_below_drewN | apply below_drew1) | exact HB.out)⟩⟩
    case rest =>
     clear HC9
     try clear c1
     try clear p1
     try clear q1
     try clear hx1
     try clear c2
     try clear p2
     try clear c5
     try clear c5b0
     try clear c6
     try clear p6
     try clear c10
     try clear c10b0
     try clear c11
     try clear c12
     try clear c12b0
     try clear hx167_0
     try clear hx167_1
     try clear p167
     try clear p2
     try clear q167
     obtain ⟨kq, x40_8, rfl, HA, HJ8, HO_9, HB⟩ := hcut
     cases kq with
     | zero => exact absurd HA.out (by simp [redraftlaw03_chosen.j1])
     | succ kj8 =>
      have H := HA.out
      clear HA
      simp only [redraftlaw03_chosen.j1] at H
      by_cases c13 : x40_8 = true
      ·subst c13
       have H1 : (redraftlaw03_chosen.l0 kj8 l0 a1 a2 a3 x9_1 (wrap64 (x10_1 + 1))) = some r := by rw [if_pos rfl] at H; exact H
       clear H
       have H := H1
       clear H1
       have H' := Aside0.mk H
       clear H
       go_wp2
       go_roundg kj8
       case measure => have := HK1.out; have := HJ8.out; omega
       case rel => exact ⟨(x9_1), (wrap64 (x10_1 + 1)), (by first | rfl | (simp; done) | (simp [*]; done)), H', ⟨by have := HK1.out; have := HJ8.out; omega⟩, ⟨by (with_reducible repeat (first | apply Kd.R_alloc | apply Kd.R_drewN | apply Kd.R_drew)); exact HO_9.out⟩, ⟨by repeat (first | (with_reducible first | exact HB.out | apply below_alloc | apply pw_below_drewN | apply below_drew1) | exact HB.out)⟩⟩
      ·replace c13 := Bool.eq_false_iff.mpr c13
       subst c13
       have H1 : (if (x9_1.length : Int) > 0 then (if 0 ≤ (wrap64 ((x9_1.length : Int) - 1)) then (if (wrap64 ((x9_1.length : Int) - 1)) < (x9_1.length : Int) then (if ((rd_T133 x9_1 (wrap64 ((x9_1.length : Int) - 1))).f1) = x10_1 then (redraftlaw03_chosen.l0 kj8 l0 a1 a2 a3 (x9_1.set ((wrap64 ((x9_1.length : Int) - 1)) : Int).toNat (⟨(rd_T133 x9_1 (wrap64 ((x9_1.length : Int) - 1))).f0, wrap64 (x10_1 + 1)⟩ : S133)) (wrap64 (x10_1 + 1))) else (if x9_1.length < 8796093022208 then (redraftlaw03_chosen.l0 kj8 l0 a1 a2 a3 (x9_1 ++ [(⟨x10_1, wrap64 (x10_1 + 1)⟩ : S133)]) (wrap64 (x10_1 + 1))) else (none))) else (none)) else (none)) else (if x9_1.length < 8796093022208 then (redraftlaw03_chosen.l0 kj8 l0 a1 a2 a3 (x9_1 ++ [(⟨x10_1, wrap64 (x10_1 + 1)⟩ : S133)]) (wrap64 (x10_1 + 1))) else (none))) = some r := by rw [if_neg (show ¬ (false = true) by decide)] at H; exact H
       clear H
       have H := H1
       clear H1
       by_cases c14 : (x9_1.length : Int) > 0
       ·rw [if_pos c14] at H
        have c14b0 : decide (0 < (x9_1.length : Int)) = true := decide_eq_true c14
        have c14b1 : decide (0 < x9_1.length) = true := decide_eq_true (by omega)
        clear c14
        obtain ⟨ji15, hji15⟩ : ∃ j_ : Int, (wrap64 ((x9_1.length : Int) - 1)) = j_ := ⟨_, rfl⟩
        replace H : (if 0 ≤ (ji15) then (if (ji15) < (x9_1.length : Int) then (if ((rd_T133 x9_1 (ji15)).f1) = x10_1 then (redraftlaw03_chosen.l0 kj8 l0 a1 a2 a3 (x9_1.set ((ji15) : Int).toNat (⟨(rd_T133 x9_1 (ji15)).f0, wrap64 (x10_1 + 1)⟩ : S133)) (wrap64 (x10_1 + 1))) else (if x9_1.length < 8796093022208 then (redraftlaw03_chosen.l0 kj8 l0 a1 a2 a3 (x9_1 ++ [(⟨x10_1, wrap64 (x10_1 + 1)⟩ : S133)]) (wrap64 (x10_1 + 1))) else (none))) else (none)) else (none)) = some r := by first | (rw [hji15] at H; exact H) | (simp only [hji15] at H ⊢; exact H)
        have hji15w : (IntKind.i64.wrap ((x9_1.length : Int) - 1)) = ji15 := (i64_w _).trans hji15
        by_cases c16 : 0 ≤ (ji15)
        ·rw [if_pos c16] at H
         have c16b0 : decide (0 ≤ (ji15)) = true := decide_eq_true c16
         clear c16
         by_cases c17 : (ji15) < (x9_1.length : Int)
         ·rw [if_pos c17] at H
          have c17b0 : decide ((ji15) < (x9_1.length : Int)) = true := decide_eq_true c17
          clear c17
          by_cases c18 : ((rd_T133 x9_1 (ji15)).f1) = x10_1
          ·rw [if_pos c18] at H
           have c18b0 : (((rd_T133 x9_1 (ji15)).f1) == x10_1) = true := beq_iff_eq.mpr c18
           have c18b1 : (((rd_T133 x9_1 (ji15)).f1) != x10_1) = false := bne_eq_false_iff_eq.mpr c18
           clear c18
           obtain ⟨y169, hy169⟩ : ∃ y_ : List (S133), y_ = (x9_1.set ((ji15) : Int).toNat (⟨(rd_T133 x9_1 (ji15)).f0, wrap64 (x10_1 + 1)⟩ : S133)) := ⟨_, rfl⟩
           replace H : (redraftlaw03_chosen.l0 kj8 l0 a1 a2 a3 y169 (wrap64 (x10_1 + 1))) = some r := by first | (rw [hy169]; with_reducible exact H) | (have H2_ := (Option.bind_some _ _).symm.trans H; rw [hy169]; with_reducible exact H2_) | (have H2_ := (Option.bind_some _ _).symm.trans H; with_reducible exact H2_) | with_reducible exact H | (rw [hy169]; exact H) | exact H
           have Ny169 := Aside0.mk hy169
           clear hy169
           have H' := Aside0.mk H
           clear H
           obtain ⟨Ao20, co20, eo20⟩ := Kd.R_slice HO_9.out
           subst eo20
           have p168 : 0 ≤ ((ji15) : Int) := of_decide_eq_true (by first | (with_reducible assumption) | assumption)
           have q168 : (ji15) < (x9_1.length : Int) := of_decide_eq_true (by first | (with_reducible assumption) | assumption)
           obtain ⟨ad168, e168, hx168_0, hx168_1⟩ := at_T133 (Kd.R_reads' HO_9.out).2.2 (ji15) p168 q168
           cases e168
           replace p168 := eq_true p168
           replace q168 := eq_true q168
           have p19 : 0 ≤ ((ji15) : Int) := of_decide_eq_true (by first | (with_reducible assumption) | assumption)
           have q19 : ((ji15) : Int) < ((x9_1.length : Int) : Int) := of_decide_eq_true (by first | (with_reducible assumption) | assumption)
           obtain ⟨go19, co19, eo19, gb19, gl19, cl19, HG19⟩ := Kd.R_form HO_9.out (by omega)
           (first | cases eo19 | (injection eo19 with ea_ en_ ec_; (first | subst ea_ | (injection ea_ with ea_; subst ea_)); subst ec_; clear en_))
           have GB19 := Aside0.mk gb19
           have GG19 := Aside0.mk HG19
           clear gb19 gl19 HG19
           (first | simp only [add_plain] at hx168_0 | skip)
           (first | simp only [add_plain] at hx168_1 | skip)
           obtain ⟨ce19, hcl19, hM19, hcc19, hfr19⟩ := Kd.R_elem HO_9.out z133 ((ji15) : Int) p19 q19
           obtain rfl := k133_openM hM19
           have hx19_0 : wc.cell? ⟨go19, ((ji15) : Int).toNat * 2, none⟩ = some (.int .i64 ((rd_T133 x9_1 (ji15)).f0)) := hcc19 0 _ rfl
           have hx19_1 : wc.cell? ⟨go19, ((ji15) : Int).toNat * 2 + 1, none⟩ = some (.int .i64 ((rd_T133 x9_1 (ji15)).f1)) := hcc19 1 _ rfl
           have hf19_0 : wc.frozen? ⟨go19, ((ji15) : Int).toNat * 2, none⟩ = false := hfr19 0
           have hf19_1 : wc.frozen? ⟨go19, ((ji15) : Int).toNat * 2 + 1, none⟩ = false := hfr19 1
           clear hcl19 hcc19 hfr19 hM19
           replace p19 := eq_true p19
           replace q19 := eq_true q19
           have HX21 := Aside0.mk (show Kd.R k133 133 wc w.heap.size (fun _ => True) (.slice (some ⟨go19, 0, none⟩) x9_1.length co20) x9_1 from (by (with_reducible repeat (first | apply Kd.R_alloc | apply Kd.R_drewN | apply Kd.R_drew)); exact HO_9.out))
           obtain ⟨ce21, hcl21, hM21, hcc21, hfr21⟩ := Kd.R_elem HX21.out z133 ((ji15) : Int) (of_decide_eq_true (by first | (with_reducible assumption) | assumption)) (by have h_ : ((ji15) : Int) < ((x9_1.length : Int) : Int) := of_decide_eq_true (by first | (with_reducible assumption) | assumption); first | exact h_ | (have e_ := (Kd.R_reads' HO_9.out).1; omega) | simpa using h_)
           obtain rfl := k133_openM hM21
           have HP21 := Kd.R_seg HX21.out ((ji15) : Int) (of_decide_eq_true (by first | (with_reducible assumption) | assumption)) (by have h_ : ((ji15) : Int) < ((x9_1.length : Int) : Int) := of_decide_eq_true (by first | (with_reducible assumption) | assumption); first | exact h_ | (have e_ := (Kd.R_reads' HO_9.out).1; omega) | simpa using h_) (seg := [.int .i64 (wrap64 (x10_1 + 1))]) (j := 1) hcl21 hcc21 (show 2 ≤ 2 from by decide) (x' := (⟨(rd_T133 x9_1 (ji15)).f0, wrap64 (x10_1 + 1)⟩ : S133)) (k133_mkM _ _ _ (⟨(rd_T133 x9_1 (ji15)).f0, wrap64 (x10_1 + 1)⟩ : S133) ) (fun _ hk => hk)
           have hx21_1 := hcc21 1 _ rfl
           (try simp only [show (k133).sz = 2 from rfl, Nat.mul_one, Nat.add_zero] at hx21_1)
           have hf21_1 := hfr21 1
           (try simp only [show (k133).sz = 2 from rfl, Nat.mul_one, Nat.add_zero] at hf21_1)
           clear hcl21 hcc21 hfr21 hM21
           go_wp2_with (first | ((with_reducible refine gate_store (t := 3) (p := 61) rfl ?_); refine store_event (t := 3) (p := 61) (v := ?vo_w22) (w1 := (wc.setCell ⟨go19, ((ji15) : Int).toNat * 2 + 1, none⟩ (.int .i64 (wrap64 (x10_1 + 1))))) ?hg ?ho ?hn ?hr ?_; (case ho => rfl); (case hg => rfl); (case hn => rfl); (case hr => first | (go_simp; done) | (go_simp; rfl)); intro w22 hw; have hg : wc.grownBy w22 (some go19) := (by rw [hw]; exact HP21.2); have hp_ : Kd.R k133 133 w22 w.heap.size (fun _ => True) (.slice (some ⟨go19, 0, none⟩) x9_1.length co20) y169 := (by rw [hw, Ny169.out]; exact HP21.1); clear HP21; have n0_ := Aside0.mk (hp_); have n1_ := Aside0.mk ((by rw [hw]; exact below_set (HB.out) GB19.out : Below w.heap.size w w22)); clear HO_9; clear HB; have HO_9 := n0_; have HB := n1_; clear n0_ n1_; clear hg hw hp_))
           go_roundg kj8
           case measure => have := HK1.out; have := HJ8.out; omega
           case rel => exact ⟨(y169), (wrap64 (x10_1 + 1)), (by first | rfl | (simp; done) | (simp [*]; done)), H', ⟨by have := HK1.out; have := HJ8.out; omega⟩, ⟨by (with_reducible repeat (first | apply Kd.R_alloc | apply Kd.R_drewN | apply Kd.R_drew)); exact HO_9.out⟩, ⟨by repeat (first | (with_reducible first | exact HB.out | apply below_alloc | apply pw_below_drewN | apply below_drew1) | exact HB.out)⟩⟩
          ·rw [if_neg c18] at H
           have c18b0 : (((rd_T133 x9_1 (ji15)).f1) == x10_1) = false := beq_eq_false_iff_ne.mpr c18
           have c18b1 : (((rd_T133 x9_1 (ji15)).f1) != x10_1) = true := bne_iff_ne.mpr c18
           by_cases c23 : x9_1.length < 8796093022208
           ·rw [if_pos c23] at H
            have LMc23 := Aside0.mk c23
            clear c23
            obtain ⟨y170, hy170⟩ : ∃ y_ : List (S133), y_ = (x9_1 ++ [(⟨x10_1, wrap64 (x10_1 + 1)⟩ : S133)]) := ⟨_, rfl⟩
            replace H : (redraftlaw03_chosen.l0 kj8 l0 a1 a2 a3 y170 (wrap64 (x10_1 + 1))) = some r := by first | (rw [hy170]; with_reducible exact H) | (have H2_ := (Option.bind_some _ _).symm.trans H; rw [hy170]; with_reducible exact H2_) | (have H2_ := (Option.bind_some _ _).symm.trans H; with_reducible exact H2_) | with_reducible exact H | (rw [hy170]; exact H) | exact H
            have Ny170 := Aside0.mk hy170
            clear hy170
            have H' := Aside0.mk H
            clear H
            obtain ⟨Ao24, co24, eo24⟩ := Kd.R_slice HO_9.out
            subst eo24
            have p168 : 0 ≤ ((ji15) : Int) := of_decide_eq_true (by first | (with_reducible assumption) | assumption)
            have q168 : (ji15) < (x9_1.length : Int) := of_decide_eq_true (by first | (with_reducible assumption) | assumption)
            obtain ⟨ad168, e168, hx168_0, hx168_1⟩ := at_T133 (Kd.R_reads' HO_9.out).2.2 (ji15) p168 q168
            cases e168
            replace p168 := eq_true p168
            replace q168 := eq_true q168
            go_wp2_with (first | ((with_reducible refine gate_builtin (b := .append) (xs := #[.tmp 62, .tmp 67]) rfl ?_); at_builtin; refine Kd.R_append k133 (w0 := w) w.heap.size rfl (.tmp 62) (.tmp 67) 61 133 (.agg #[(.int .i64 0), (.int .i64 0)]) 16 rfl Tryd.underlying61 info133 rfl (by decide) (by omega) (.slice (some ad168) x9_1.length co24) x9_1 (⟨x10_1, wrap64 (x10_1 + 1)⟩ : S133) [.int .i64 x10_1, .int .i64 (wrap64 (x10_1 + 1))] (fun _ => True) (fun _ => False) rfl rfl ?aP (fun _ hk => hk.elim) ?aF ?aO ?aB ?aS ?aL ?_; (case aP => exact k133_mkM _ _ _ (⟨x10_1, wrap64 (x10_1 + 1)⟩ : S133)); (case aB => exact (by repeat (first | (with_reducible first | exact HB.out | apply below_alloc | apply pw_below_drewN | apply below_drew1) | exact HB.out))); (case aF => exact (fun _ _ => trivial)); (case aO => exact (by (with_reducible repeat (first | apply Kd.R_alloc | apply Kd.R_drewN | apply Kd.R_drew)); exact HO_9.out)); (case aS => exact (below_size (by repeat (first | (with_reducible first | exact HB.out | apply below_alloc | apply pw_below_drewN | apply below_drew1) | exact HB.out)))); (case aL => have := LMc23.out; omega); intro v171 w25 ho hb hg hat; rw [← Ny170.out] at ho; have n0_ := Aside0.mk (hb); have n1_ := Aside0.mk (ho); clear HB; clear HO_9; have HB := n0_; have HO172 := n1_; clear n0_ n1_; clear ho hb hg hat))
            go_roundg kj8
            case measure => have := HK1.out; have := HJ8.out; omega
            case rel => exact ⟨(y170), (wrap64 (x10_1 + 1)), (by first | rfl | (simp; done) | (simp [*]; done)), H', ⟨by have := HK1.out; have := HJ8.out; omega⟩, ⟨by (with_reducible repeat (first | apply Kd.R_alloc | apply Kd.R_drewN | apply Kd.R_drew)); exact HO172.out⟩, ⟨by repeat (first | (with_reducible first | exact HB.out | apply below_alloc | apply pw_below_drewN | apply below_drew1) | exact HB.out)⟩⟩
           ·rw [if_neg c23] at H
            exact absurd H (by simp)
         ·rw [if_neg c17] at H
          exact absurd H (by simp)
        ·rw [if_neg c16] at H
         exact absurd H (by simp)
       ·rw [if_neg c14] at H
        have c14b0 : decide (0 < (x9_1.length : Int)) = false := decide_eq_false c14
        have c14b1 : decide (0 < x9_1.length) = false := decide_eq_false (by omega)
        clear c14
        by_cases c26 : x9_1.length < 8796093022208
        ·rw [if_pos c26] at H
         have LMc26 := Aside0.mk c26
         clear c26
         obtain ⟨y173, hy173⟩ : ∃ y_ : List (S133), y_ = (x9_1 ++ [(⟨x10_1, wrap64 (x10_1 + 1)⟩ : S133)]) := ⟨_, rfl⟩
         replace H : (redraftlaw03_chosen.l0 kj8 l0 a1 a2 a3 y173 (wrap64 (x10_1 + 1))) = some r := by first | (rw [hy173]; with_reducible exact H) | (have H2_ := (Option.bind_some _ _).symm.trans H; rw [hy173]; with_reducible exact H2_) | (have H2_ := (Option.bind_some _ _).symm.trans H; with_reducible exact H2_) | with_reducible exact H | (rw [hy173]; exact H) | exact H
         have Ny173 := Aside0.mk hy173
         clear hy173
         have H' := Aside0.mk H
         clear H
         obtain ⟨Ao27, co27, eo27⟩ := Kd.R_slice HO_9.out
         subst eo27
         go_wp2_with (first | ((with_reducible refine gate_builtin (b := .append) (xs := #[.tmp 62, .tmp 67]) rfl ?_); at_builtin; refine Kd.R_append k133 (w0 := w) w.heap.size rfl (.tmp 62) (.tmp 67) 61 133 (.agg #[(.int .i64 0), (.int .i64 0)]) 16 rfl Tryd.underlying61 info133 rfl (by decide) (by omega) (.slice Ao27 x9_1.length co27) x9_1 (⟨x10_1, wrap64 (x10_1 + 1)⟩ : S133) [.int .i64 x10_1, .int .i64 (wrap64 (x10_1 + 1))] (fun _ => True) (fun _ => False) rfl rfl ?aP (fun _ hk => hk.elim) ?aF ?aO ?aB ?aS ?aL ?_; (case aP => exact k133_mkM _ _ _ (⟨x10_1, wrap64 (x10_1 + 1)⟩ : S133)); (case aB => exact (by repeat (first | (with_reducible first | exact HB.out | apply below_alloc | apply pw_below_drewN | apply below_drew1) | exact HB.out))); (case aF => exact (fun _ _ => trivial)); (case aO => exact (by (with_reducible repeat (first | apply Kd.R_alloc | apply Kd.R_drewN | apply Kd.R_drew)); exact HO_9.out)); (case aS => exact (below_size (by repeat (first | (with_reducible first | exact HB.out | apply below_alloc | apply pw_below_drewN | apply below_drew1) | exact HB.out)))); (case aL => have := LMc26.out; omega); intro v174 w28 ho hb hg hat; rw [← Ny173.out] at ho; have n0_ := Aside0.mk (hb); have n1_ := Aside0.mk (ho); clear HB; clear HO_9; have HB := n0_; have HO175 := n1_; clear n0_ n1_; clear ho hb hg hat))
         go_roundg kj8
         case measure => have := HK1.out; have := HJ8.out; omega
         case rel => exact ⟨(y173), (wrap64 (x10_1 + 1)), (by first | rfl | (simp; done) | (simp [*]; done)), H', ⟨by have := HK1.out; have := HJ8.out; omega⟩, ⟨by (with_reducible repeat (first | apply Kd.R_alloc | apply Kd.R_drewN | apply Kd.R_drew)); exact HO175.out⟩, ⟨by repeat (first | (with_reducible first | exact HB.out | apply below_alloc | apply pw_below_drewN | apply below_drew1) | exact HB.out)⟩⟩
        ·rw [if_neg c26] at H
         exact absurd H (by simp)
   ·rw [if_neg c5] at H
    have c5b0 : decide (x10_1 < (l0.length : Int)) = false := decide_eq_false c5
    clear c5
    obtain rfl := Option.some.inj H
    go_wp2
    go_ret
    exact ⟨_, by first | rfl | (simp [errW_none, errW_some] <;> rfl) | (simp [*, errW_none, errW_some] <;> rfl), by (with_reducible repeat (first | apply Kd.R_alloc | apply Kd.R_drewN | apply Kd.R_drew)); exact HO_9.out, by repeat (first | (with_reducible first | exact HB.out | apply below_alloc | apply pw_below_drewN | apply below_drew1) | exact HB.out)⟩
def redraftlaw03_EqRuns.l0 : Nat → List (S58) → List (S58) → Int → Option (Bool)
 | 0, _, _, _ => none
 | k + 1, x0, x1, x5 => if x5 < (x0.length : Int) then (if 0 ≤ x5 then (if x5 < (x1.length : Int) then (if (!((((rd_T58 x0 x5).f0).toList) == (((rd_T58 x1 x5).f0).toList)) || (!(((rd_T58 x0 x5).f1) == ((rd_T58 x1 x5).f1)))) = true then (some false) else (redraftlaw03_EqRuns.l0 k x0 x1 (wrap64 (x5 + 1)))) else (none)) else (none)) else (some true)
def redraftlaw03_EqRuns.f (k : Nat) (l0 : List (S58)) (l1 : List (S58)) : Option (Bool) := if (l0.length : Int) = (l1.length : Int) then (redraftlaw03_EqRuns.l0 k l0 l1 0) else (some false)
theorem redraftlaw03_EqRuns.mono_l : ∀ k, (∀ y0 y1 y2, LeO (redraftlaw03_EqRuns.l0 k y0 y1 y2) (redraftlaw03_EqRuns.l0 (k + 1) y0 y1 y2))
 | 0 => fun _ _ _ r h => by simp [redraftlaw03_EqRuns.l0] at h
 | k + 1 => by
  have ih0 := redraftlaw03_EqRuns.mono_l k
  ·intro y0 y1 y2
   unfold redraftlaw03_EqRuns.l0
   repeat' first
   | (with_reducible exact ih0 _ _ _)
   | (with_reducible exact LeO.refl _)
   | (with_reducible exact LeO.none _)
   | (with_reducible refine LeO.ite ?_ ?_)
   | (with_reducible refine LeO.bind ?_ (fun _ => ?_))
   | exact ih0 _ _ _
   | exact LeO.none _
   | refine LeO.ite ?_ ?_
   | refine LeO.bind ?_ (fun _ => ?_)
theorem redraftlaw03_EqRuns.mono : ∀ a0 a1 k, LeO (redraftlaw03_EqRuns.f k a0 a1) (redraftlaw03_EqRuns.f (k + 1) a0 a1) := by
 intro a0 a1 k
 have ih0 := redraftlaw03_EqRuns.mono_l k
 unfold redraftlaw03_EqRuns.f
 repeat' first
   | (with_reducible exact ih0 _ _ _)
   | (with_reducible exact LeO.refl _)
   | (with_reducible exact LeO.none _)
   | (with_reducible refine LeO.ite ?_ ?_)
   | (with_reducible refine LeO.bind ?_ (fun _ => ?_))
   | exact ih0 _ _ _
   | exact LeO.none _
   | refine LeO.ite ?_ ?_
   | refine LeO.bind ?_ (fun _ => ?_)
set_option maxHeartbeats 8000000 in
set_option maxRecDepth 100000 in
theorem redraftlaw03_EqRuns.calls (k : Nat) (A0 : Option Addr) (c0 : Nat) (l0 : List (S58)) (A1 : Option Addr) (c1 : Nat) (l1 : List (S58)) (r : Bool) (w : World) (hr0 : Kd.C k58 w A0 l0.length l0) (hc0 : l0.length ≤ c0) (hr1 : Kd.C k58 w A1 l1.length l1) (hc1 : l1.length ≤ c1) (h : redraftlaw03_EqRuns.f k l0 l1 = some r) :
  Calls Tryd.prog 35 #[.slice A0 l0.length c0, .slice A1 l1.length c1] w fun e w' => e = .returned (.bool r) ∧ Drawn0 w w' := by
 have hu58 := Tryd.underlying58
 have HR0 := Aside0.mk hr0
 have HC0 := Aside0.mk hc0
 clear hr0 hc0
 have HR1 := Aside0.mk hr1
 have HC1 := Aside0.mk hc1
 clear hr1 hc1
 have H : (if (l0.length : Int) = (l1.length : Int) then (redraftlaw03_EqRuns.l0 k l0 l1 0) else (some false)) = some r := h
 clear h
 by_cases c3 : (l0.length : Int) = (l1.length : Int)
 ·rw [if_pos c3] at H
  have c3b0 : ((l0.length : Int) == (l1.length : Int)) = true := beq_iff_eq.mpr c3
  have c3b1 : ((l0.length : Int) != (l1.length : Int)) = false := bne_eq_false_iff_eq.mpr c3
  have c3b2 : (l0.length == l1.length) = true := by first | simpa using c3 | (simp at c3 ⊢; omega)
  clear c3
  have H' := Aside0.mk H
  clear H
  go_enter Tryd.func35, Tryd.ntmps35
  go_wp2
  repeat (go_quiet (fail); try go_wp2)
  go_loopg [5] k (fun kq v5 w' => ∃ (x5_1 : Int), v5 = .int .i64 x5_1 ∧ Aside0 (redraftlaw03_EqRuns.l0 kq l0 l1 x5_1 = some r) ∧ Aside0 (kq ≤ k) ∧ Drawn0 w w')
  case atStart => exact ⟨(0), (by first | rfl | (simp; done) | (simp [*]; done)), H', ⟨Nat.le_refl _⟩, by repeat (first | exact Drawn0.refl _ | apply Drawn0.step)⟩
  case round =>
   clear H'
   try clear c1
   try clear p2
   try clear c3
   try clear c3b0
   try clear c3b1
   try clear c3b2
   obtain ⟨x5_1, rfl, HA, HK1, ⟨m1, rfl⟩⟩ := hrel
   cases gk with
   | zero => exact absurd HA.out (by simp [redraftlaw03_EqRuns.l0])
   | succ k1 =>
    have H := HA.out
    clear HA
    simp only [redraftlaw03_EqRuns.l0] at H
    by_cases c4 : x5_1 < (l0.length : Int)
    ·rw [if_pos c4] at H
     have c4b0 : decide (x5_1 < (l0.length : Int)) = true := decide_eq_true c4
     clear c4
     by_cases c5 : 0 ≤ x5_1
     ·rw [if_pos c5] at H
      have c5b0 : decide (0 ≤ x5_1) = true := decide_eq_true c5
      clear c5
      by_cases c6 : x5_1 < (l1.length : Int)
      ·rw [if_pos c6] at H
       have c6b0 : decide (x5_1 < (l1.length : Int)) = true := decide_eq_true c6
       clear c6
       by_cases c7 : (!((((rd_T58 l0 x5_1).f0).toList) == (((rd_T58 l1 x5_1).f0).toList)) || (!(((rd_T58 l0 x5_1).f1) == ((rd_T58 l1 x5_1).f1)))) = true
       ·rw [if_pos c7] at H
        have c7b0 : (!((((rd_T58 l0 x5_1).f0).toList) == (((rd_T58 l1 x5_1).f0).toList)) || (!(((rd_T58 l0 x5_1).f1) == ((rd_T58 l1 x5_1).f1)))) = true := c7
        clear c7
        obtain rfl := Option.some.inj H
        have p185 : 0 ≤ (x5_1 : Int) := of_decide_eq_true (by first | (with_reducible assumption) | assumption)
        have q185 : x5_1 < (l0.length : Int) := of_decide_eq_true (by first | (with_reducible assumption) | assumption)
        obtain ⟨ad185, e185, hx185_0, hx185_1⟩ := at_T58 HR0.out x5_1 p185 q185
        cases e185
        replace p185 := eq_true p185
        replace q185 := eq_true q185
        have p186 : 0 ≤ (x5_1 : Int) := of_decide_eq_true (by first | (with_reducible assumption) | assumption)
        have q186 : x5_1 < (l1.length : Int) := of_decide_eq_true (by first | (with_reducible assumption) | assumption)
        obtain ⟨ad186, e186, hx186_0, hx186_1⟩ := at_T58 HR1.out x5_1 p186 q186
        cases e186
        replace p186 := eq_true p186
        replace q186 := eq_true q186
        go_wp2
        repeat (go_quiet (fail); try go_wp2)
        go_ret
        exact ⟨by first | rfl | (simp; done) | (simp [*]; done), by repeat (first | exact Drawn0.refl _ | apply Drawn0.step)⟩
       ·rw [if_neg c7] at H
        have c7b0 : (!((((rd_T58 l0 x5_1).f0).toList) == (((rd_T58 l1 x5_1).f0).toList)) || (!(((rd_T58 l0 x5_1).f1) == ((rd_T58 l1 x5_1).f1)))) = false := by simpa using c7
        clear c7
        have H' := Aside0.mk H
        clear H
        have p185 : 0 ≤ (x5_1 : Int) := of_decide_eq_true (by first | (with_reducible assumption) | assumption)
        have q185 : x5_1 < (l0.length : Int) := of_decide_eq_true (by first | (with_reducible assumption) | assumption)
        obtain ⟨ad185, e185, hx185_0, hx185_1⟩ := at_T58 HR0.out x5_1 p185 q185
        cases e185
        replace p185 := eq_true p185
        replace q185 := eq_true q185
        have p186 : 0 ≤ (x5_1 : Int) := of_decide_eq_true (by first | (with_reducible assumption) | assumption)
        have q186 : x5_1 < (l1.length : Int) := of_decide_eq_true (by first | (with_reducible assumption) | assumption)
        obtain ⟨ad186, e186, hx186_0, hx186_1⟩ := at_T58 HR1.out x5_1 p186 q186
        cases e186
        replace p186 := eq_true p186
        replace q186 := eq_true q186
        go_wp2
        repeat (go_quiet (fail); try go_wp2)
        go_roundg k1
        case measure => have := HK1.out; omega
        case rel => exact ⟨(wrap64 (x5_1 + 1)), (by first | rfl | (simp; done) | (simp [*]; done)), H', ⟨by have := HK1.out; omega⟩, by repeat (first | exact Drawn0.refl _ | apply Drawn0.step)⟩
      ·rw [if_neg c6] at H
       exact absurd H (by simp)
     ·rw [if_neg c5] at H
      exact absurd H (by simp)
    ·rw [if_neg c4] at H
     have c4b0 : decide (x5_1 < (l0.length : Int)) = false := decide_eq_false c4
     clear c4
     obtain rfl := Option.some.inj H
     go_wp2
     repeat (go_quiet (fail); try go_wp2)
     go_ret
     exact ⟨by first | rfl | (simp; done) | (simp [*]; done), by repeat (first | exact Drawn0.refl _ | apply Drawn0.step)⟩
 ·rw [if_neg c3] at H
  have c3b0 : ((l0.length : Int) == (l1.length : Int)) = false := beq_eq_false_iff_ne.mpr c3
  have c3b1 : ((l0.length : Int) != (l1.length : Int)) = true := bne_iff_ne.mpr c3
  have c3b2 : (l0.length == l1.length) = false := by first | simpa using c3 | (simp at c3 ⊢; omega)
  obtain rfl := Option.some.inj H
  go_enter Tryd.func35, Tryd.ntmps35
  go_wp2
  repeat (go_quiet (fail); try go_wp2)
  go_ret
  exact ⟨by first | rfl | (simp; done) | (simp [*]; done), by repeat (first | exact Drawn0.refl _ | apply Drawn0.step)⟩
def span_Count.l0 : Nat → Int → List (S133) → Int → Int → Option (Int × Int)
 | 0, _, _, _, _ => none
 | k + 1, x6, x17, x18, x19 => if x19 < x18 then (if 0 ≤ x19 then (if x19 < (x17.length : Int) then (span_Count.l0 k (wrap64 (x6 + (wrap64 (((rd_T133 x17 x19).f1) - ((rd_T133 x17 x19).f0))))) x17 x18 (wrap64 (x19 + 1))) else (none)) else (none)) else (some (x6, 0))
def span_Count.f (k : Nat) (l0 : List (S133)) : Option (Int × Int) := (span_Check.f k l0).bind fun bt187 => (if bt187.2 = 0 then (span_Count.l0 k 0 l0 (l0.length : Int) 0) else (some (0, bt187.2)))
theorem span_Count.mono_l : ∀ k, (∀ y0 y1 y2 y3, LeO (span_Count.l0 k y0 y1 y2 y3) (span_Count.l0 (k + 1) y0 y1 y2 y3))
 | 0 => fun _ _ _ _ r h => by simp [span_Count.l0] at h
 | k + 1 => by
  have ih0 := span_Count.mono_l k
  ·intro y0 y1 y2 y3
   unfold span_Count.l0
   repeat' first
   | (with_reducible exact ih0 _ _ _ _)
   | (with_reducible exact span_Check.mono _ _)
   | (with_reducible exact LeO.refl _)
   | (with_reducible exact LeO.none _)
   | (with_reducible refine LeO.ite ?_ ?_)
   | (with_reducible refine LeO.bind ?_ (fun _ => ?_))
   | exact ih0 _ _ _ _
   | exact span_Check.mono _ _
   | exact LeO.none _
   | refine LeO.ite ?_ ?_
   | refine LeO.bind ?_ (fun _ => ?_)
theorem span_Count.mono : ∀ a0 k, LeO (span_Count.f k a0) (span_Count.f (k + 1) a0) := by
 intro a0 k
 have ih0 := span_Count.mono_l k
 unfold span_Count.f
 repeat' first
   | (with_reducible exact ih0 _ _ _ _)
   | (with_reducible exact span_Check.mono _ _)
   | (with_reducible exact LeO.refl _)
   | (with_reducible exact LeO.none _)
   | (with_reducible refine LeO.ite ?_ ?_)
   | (with_reducible refine LeO.bind ?_ (fun _ => ?_))
   | exact ih0 _ _ _ _
   | exact span_Check.mono _ _
   | exact LeO.none _
   | refine LeO.ite ?_ ?_
   | refine LeO.bind ?_ (fun _ => ?_)
set_option maxHeartbeats 8000000 in
set_option maxRecDepth 100000 in
theorem span_Count.calls (k : Nat) (A0 : Option Addr) (c0 : Nat) (l0 : List (S133)) (r1 : Int) (r2 : Int) (w : World) (hr0 : Kd.C k133 w A0 l0.length l0) (hc0 : l0.length ≤ c0) (h : span_Count.f k l0 = some (r1, r2)) :
  Calls Tryd.prog 38 #[.slice A0 l0.length c0] w fun e w' => e = .returned (.tuple #[.int .i64 r1, .int .i64 r2]) ∧ Below w.heap.size w w' := by
 have hu133 := Tryd.underlying133
 have HR0 := Aside0.mk hr0
 have HC0 := Aside0.mk hc0
 clear hr0 hc0
 have HB := Aside0.mk (Below.refl w.heap.size w)
 have H : ((span_Check.f k l0).bind fun bt187 => (if bt187.2 = 0 then (span_Count.l0 k 0 l0 (l0.length : Int) 0) else (some (0, bt187.2)))) = some (r1, r2) := h
 clear h
 replace H := Option.bind_eq_some_iff.mp H
 obtain ⟨⟨t187, t188⟩, A20, H⟩ := H
 replace H : (if t188 = 0 then (span_Count.l0 k 0 l0 (l0.length : Int) 0) else (some (0, t188))) = some (r1, r2) := H
 have A2 := Aside0.mk A20
 clear A20
 by_cases c3 : t188 = 0
 ·rw [if_pos c3] at H
  have c3b0 : (t188 == 0) = true := beq_iff_eq.mpr c3
  have c3b1 : (t188 != 0) = false := bne_eq_false_iff_eq.mpr c3
  clear c3
  have H' := Aside0.mk H
  clear H
  go_enter Tryd.func38, Tryd.ntmps38
  go_wp2_with (first | ((with_reducible refine gate_callee (f := 37) rfl ?_); refine goesL_ (some 11) rfl rfl Tryd.func37 (by kernel_rfl) rfl #[.slice A0 l0.length c0] rfl (by (try simp only [List.map_toArray, List.map_cons, List.map_nil]); first | done | rfl | (simp only [List.length_drop, List.length_take]; rfl)) ?_; (with_reducible refine (span_Check.calls k _ _ l0 t187 t188 _ ?side1 ?side2 A2.out).mono ?_); (case side1 => repeat (first | exact HR0.out | (with_reducible refine Kd.C_alloc ?_ _) | (with_reducible refine Kd.C_drewN ?_ _) | (with_reducible refine Kd.C_drew ?_))); (case side2 => exact HC0.out); rintro e w4 ⟨rfl, hb⟩; refine ⟨_, rfl, ?_⟩; have n0_ := Aside0.mk (below_step (by repeat (first | (with_reducible first | exact HB.out | apply below_alloc | apply pw_below_drewN | apply below_drew1) | exact HB.out)) hb); clear HB; have HB := n0_; clear n0_; (try clear hb); (try clear hb2); (try clear hk); (try clear hi)))
  go_loopg [6, 19] k (fun kq v6 v19 w' => ∃ (x6_1 : Int) (x19_1 : Int), v6 = .int .i64 x6_1 ∧ v19 = .int .i64 x19_1 ∧ Aside0 (span_Count.l0 kq x6_1 l0 (l0.length : Int) x19_1 = some (r1, r2)) ∧ Aside0 (kq ≤ k) ∧ Aside0 (Below w.heap.size w w'))
  case atStart => exact ⟨(0), (0), (by first | rfl | (simp; done) | (simp [*]; done)), (by first | rfl | (simp; done) | (simp [*]; done)), H', ⟨Nat.le_refl _⟩, ⟨by repeat (first | (with_reducible first | exact HB.out | apply below_alloc | apply pw_below_drewN | apply below_drew1) | exact HB.out)⟩⟩
  case round =>
   clear H'
   try clear p2
   try clear c3
   try clear c3b0
   try clear c3b1
   obtain ⟨x6_1, x19_1, rfl, rfl, HA, HK1, HB⟩ := hrel
   cases gk with
   | zero => exact absurd HA.out (by simp [span_Count.l0])
   | succ k1 =>
    have H := HA.out
    clear HA
    simp only [span_Count.l0] at H
    by_cases c5 : x19_1 < (l0.length : Int)
    ·rw [if_pos c5] at H
     have c5b0 : decide (x19_1 < (l0.length : Int)) = true := decide_eq_true c5
     clear c5
     by_cases c6 : 0 ≤ x19_1
     ·rw [if_pos c6] at H
      have c6b0 : decide (0 ≤ x19_1) = true := decide_eq_true c6
      clear c6
      by_cases c7 : x19_1 < (l0.length : Int)
      ·rw [if_pos c7] at H
       have c7b0 : decide (x19_1 < (l0.length : Int)) = true := decide_eq_true c7
       clear c7
       have H' := Aside0.mk H
       clear H
       have p189 : 0 ≤ (x19_1 : Int) := of_decide_eq_true (by first | (with_reducible assumption) | assumption)
       have q189 : x19_1 < (l0.length : Int) := of_decide_eq_true (by first | (with_reducible assumption) | assumption)
       obtain ⟨ad189, e189, hx189_0, hx189_1⟩ := at_T133 HR0.out x19_1 p189 q189
       cases e189
       replace hx189_0 := (HB.out.cell (World.block_lt_of_cell? w _ hx189_0)).trans hx189_0
       replace hx189_1 := (HB.out.cell (World.block_lt_of_cell? w _ hx189_1)).trans hx189_1
       replace p189 := eq_true p189
       replace q189 := eq_true q189
       go_wp2_with (first | ((with_reducible refine gate_dst (N := 8) rfl ?_); refine box_event ?hg (N := 8) ?hd (cs := #[.int .i64 0, .int .i64 0]) (t := 133) ?hr ?_; (case hd => rfl); (case hg => rfl); (case hr => first | (go_simp; done) | (go_simp; rfl)); intro gb190 hg w8 hbox hb; have n0_ := Aside0.mk (below_step (by repeat (first | (with_reducible first | exact HB.out | apply below_alloc | apply pw_below_drewN | apply below_drew1) | exact HB.out)) hb); have n1_ := Aside0.mk (hbox); have n2_ := Aside0.mk ((by rw [hg]; exact (below_size (by repeat (first | (with_reducible first | exact HB.out | apply below_alloc | apply pw_below_drewN | apply below_drew1) | exact HB.out))) : w.heap.size ≤ gb190)); have n3_ := Aside0.mk ((by rw [hg]; exact (below_size (by repeat (first | (with_reducible first | exact HB.out | apply below_alloc | apply pw_below_drewN | apply below_drew1) | exact HB.out))) : w.heap.size ≤ gb190)); clear HB; have HB := n0_; have BK190 := n1_; have GW190 := n2_; have GE190 := n3_; clear n0_ n1_ n2_ n3_; clear hb hbox hg; have hcz9_0 : w8.cell? ⟨gb190, 0, none⟩ = some (.int .i64 0) := (blk_cell BK190.out 0).trans rfl; have hcz9_1 : w8.cell? ⟨gb190, 1, none⟩ = some (.int .i64 0) := (blk_cell BK190.out 1).trans rfl; have hfz9_0 := blk_frozen BK190.out 0; have hfz9_1 := blk_frozen BK190.out 1))
       go_roundg k1
       case measure => have := HK1.out; omega
       case rel => exact ⟨(wrap64 (x6_1 + (wrap64 (((rd_T133 l0 x19_1).f1) - ((rd_T133 l0 x19_1).f0))))), (wrap64 (x19_1 + 1)), (by first | rfl | (simp; done) | (simp [*]; done)), (by first | rfl | (simp; done) | (simp [*]; done)), H', ⟨by have := HK1.out; omega⟩, ⟨by repeat (first | (with_reducible first | exact HB.out | apply below_alloc | apply pw_below_drewN | apply below_drew1 | refine below_set ?_ GE190.out) | exact HB.out)⟩⟩
      ·rw [if_neg c7] at H
       exact absurd H (by simp)
     ·rw [if_neg c6] at H
      exact absurd H (by simp)
    ·rw [if_neg c5] at H
     have c5b0 : decide (x19_1 < (l0.length : Int)) = false := decide_eq_false c5
     clear c5
     simp only [Option.some.injEq, Prod.mk.injEq] at H
     obtain ⟨rfl, rfl⟩ := H
     go_wp2
     go_ret2
     exact ⟨by first | rfl | (simp [errW_none, errW_some] <;> rfl) | (simp [*, errW_none, errW_some] <;> rfl), by repeat (first | (with_reducible first | exact HB.out | apply below_alloc | apply pw_below_drewN | apply below_drew1) | exact HB.out)⟩
 ·rw [if_neg c3] at H
  have c3b0 : (t188 == 0) = false := beq_eq_false_iff_ne.mpr c3
  have c3b1 : (t188 != 0) = true := bne_iff_ne.mpr c3
  simp only [Option.some.injEq, Prod.mk.injEq] at H
  obtain ⟨rfl, rfl⟩ := H
  go_enter Tryd.func38, Tryd.ntmps38
  go_wp2_with (first | ((with_reducible refine gate_callee (f := 37) rfl ?_); refine goesL_ (some 11) rfl rfl Tryd.func37 (by kernel_rfl) rfl #[.slice A0 l0.length c0] rfl (by (try simp only [List.map_toArray, List.map_cons, List.map_nil]); first | done | rfl | (simp only [List.length_drop, List.length_take]; rfl)) ?_; (with_reducible refine (span_Check.calls k _ _ l0 t187 t188 _ ?side1 ?side2 A2.out).mono ?_); (case side1 => repeat (first | exact HR0.out | (with_reducible refine Kd.C_alloc ?_ _) | (with_reducible refine Kd.C_drewN ?_ _) | (with_reducible refine Kd.C_drew ?_))); (case side2 => exact HC0.out); rintro e w10 ⟨rfl, hb⟩; refine ⟨_, rfl, ?_⟩; have n0_ := Aside0.mk (below_step (by repeat (first | (with_reducible first | exact HB.out | apply below_alloc | apply pw_below_drewN | apply below_drew1) | exact HB.out)) hb); clear HB; have HB := n0_; clear n0_; (try clear hb); (try clear hb2); (try clear hk); (try clear hi)))
  go_ret2
  exact ⟨by first | rfl | (simp [errW_none, errW_some] <;> rfl) | (simp [*, errW_none, errW_some] <;> rfl), by repeat (first | (with_reducible first | exact HB.out | apply below_alloc | apply pw_below_drewN | apply below_drew1) | exact HB.out)⟩
def redraftlaw03_at.f (a0 : Int) : Option (Int) := some (Int.tmod (wrap64 ((Int.tmod a0 3) + 3)) 3)
set_option maxHeartbeats 8000000 in
set_option maxRecDepth 100000 in
theorem redraftlaw03_at.calls (a0 : Int) (r : Int) (w : World) (h : redraftlaw03_at.f a0 = some r) :
  Calls Tryd.prog 79 #[.int .i64 a0] w fun e w' => e = .returned (.int .i64 r) ∧ Drawn0 w w' := by
 have H : (some (Int.tmod (wrap64 ((Int.tmod a0 3) + 3)) 3)) = some r := h
 clear h
 obtain rfl := Option.some.inj H
 go_enter Tryd.func79, Tryd.ntmps79
 go_wp2
 go_ret
 exact ⟨by first | rfl | (simp; done) | (simp [*]; done), by repeat (first | exact Drawn0.refl _ | apply Drawn0.step)⟩
end Go.Proofs.YteeigokkafcaaaaDoor.Pr
end
section
namespace Go.Proofs.YteeigokkafcaaaaDoorRope
open Go.RowKit Go.Proofs.YteeigokkafcaaaaDoorW.PrintWords Go.Proofs.YteeigokkafcaaaaDoorW.PrintMore Go.Proofs.YteeigokkafcaaaaDoor.Pr
set_option linter.unusedSimpArgs false
set_option linter.unusedVariables false
def addR (l : List (Nat × Nat)) (q : Nat) : List (Nat × Nat) :=
  match l.reverse with
  | [] => [(q, q + 1)]
  | b :: t => if b.2 = q then t.reverse ++ [(b.1, q + 1)] else l ++ [(q, q + 1)]
theorem addR_nil (q : Nat) : addR [] q = [(q, q + 1)] := rfl
theorem addR_snoc (L : List (Nat × Nat)) (b : Nat × Nat) (q : Nat) : addR (L ++ [b]) q = if b.2 = q then L ++ [(b.1, q + 1)] else L ++ [b] ++ [(q, q + 1)] := by
  unfold addR
  rw [List.reverse_append]
  simp
structure Chs (cs : List (Int × Int)) (down : Bool) (q : Nat) (l : List (Nat × Nat)) : Prop where
  one : ∀ r ∈ l, r.1 < r.2 ∧ r.2 ≤ q
  two : l.Pairwise (fun a b => a.2 < b.1)
  len : l.length ≤ q
  hid : ∀ r ∈ l, ∀ p, r.1 ≤ p → p < r.2 → down = true → (cs.getD p (0, 0)).2 ≠ 0
theorem Chs.zero (cs : List (Int × Int)) (down : Bool) : Chs cs down 0 [] := ⟨by simp, List.Pairwise.nil, Nat.le_refl _, by simp⟩
theorem Chs.skip {cs : List (Int × Int)} {down : Bool} {q : Nat} {l : List (Nat × Nat)} (h : Chs cs down q l) : Chs cs down (q + 1) l :=
  ⟨fun r hr => ⟨(h.one r hr).1, Nat.le_succ_of_le (h.one r hr).2⟩, h.two, Nat.le_succ_of_le h.len, h.hid⟩
theorem Chs.add {cs : List (Int × Int)} {down : Bool} {q : Nat} {l : List (Nat × Nat)} (h : Chs cs down q l) (hd : down = true → (cs.getD q (0, 0)).2 ≠ 0) : Chs cs down (q + 1) (addR l q) := by
  rcases List.eq_nil_or_concat l with rfl | ⟨L, b, rfl⟩
  · rw [addR_nil]
    refine ⟨fun r hr => ?_, by simp, by simp, fun r hr p h1 h2 hdn => ?_⟩
    · obtain rfl := List.mem_singleton.1 hr
      exact ⟨Nat.lt_succ_self _, Nat.le_refl _⟩
    · obtain rfl := List.mem_singleton.1 hr
      obtain rfl : p = q := by dsimp only at h1 h2; omega
      exact hd hdn
  · rw [List.concat_eq_append] at *
    rw [addR_snoc]
    have hb := h.one b (by simp)
    have ht := List.pairwise_append.1 h.two
    have hlen := h.len
    simp only [List.length_append, List.length_cons, List.length_nil] at hlen
    by_cases c : b.2 = q
    · rw [if_pos c]
      refine ⟨fun r hr => ?_, ?_, by simp; omega, fun r hr p h1 h2 hdn => ?_⟩
      · rcases List.mem_append.1 hr with hr | hr
        · have := h.one r (List.mem_append_left _ hr); exact ⟨this.1, by omega⟩
        · obtain rfl := List.mem_singleton.1 hr; exact ⟨by dsimp only; omega, Nat.le_refl _⟩
      · refine List.pairwise_append.2 ⟨ht.1, by simp, fun a ha x hx => ?_⟩
        obtain rfl := List.mem_singleton.1 hx
        exact ht.2.2 a ha b (by simp)
      · rcases List.mem_append.1 hr with hr | hr
        · exact h.hid r (List.mem_append_left _ hr) p h1 h2 hdn
        · obtain rfl := List.mem_singleton.1 hr
          dsimp only at h1 h2
          by_cases c2 : p = q
          · rw [c2]; exact hd hdn
          · exact h.hid b (by simp) p h1 (by omega) hdn
    · rw [if_neg c]
      refine ⟨fun r hr => ?_, ?_, by simp; omega, fun r hr p h1 h2 hdn => ?_⟩
      · rcases List.mem_append.1 hr with hr | hr
        · have := h.one r hr; exact ⟨this.1, by omega⟩
        · obtain rfl := List.mem_singleton.1 hr; exact ⟨Nat.lt_succ_self _, Nat.le_refl _⟩
      · refine List.pairwise_append.2 ⟨h.two, by simp, fun a ha x hx => ?_⟩
        obtain rfl := List.mem_singleton.1 hx
        dsimp only
        rcases List.mem_append.1 ha with ha | ha
        · have := ht.2.2 a ha b (by simp); omega
        · obtain rfl := List.mem_singleton.1 ha; omega
      · rcases List.mem_append.1 hr with hr | hr
        · exact h.hid r hr p h1 h2 hdn
        · obtain rfl := List.mem_singleton.1 hr
          obtain rfl : p = q := by dsimp only at h1 h2; omega
          exact hd hdn
theorem sRng_append (a b : List (Nat × Nat)) : sRng (a ++ b) = sRng a ++ sRng b := by simp [sRng]
theorem chosen_l0 {cs : List (Int × Int)} (hb : cs.length ≤ 1048576) (a b : Int) (down : Bool) : ∀ (d q : Nat) (l : List (Nat × Nat)), q + d = cs.length → Chs cs down q l → ∃ k l', redraftlaw03_chosen.l0 k (sCells cs) a b down (sRng l) (q : Int) = some (sRng l') ∧ Chs cs down cs.length l' := by
  intro d
  induction d with
  | zero =>
    intro q l hq h
    refine ⟨1, l, ?_, ?_⟩
    · rw [redraftlaw03_chosen.l0, if_neg (by rw [sCells_len]; omega)]
    · rwa [show cs.length = q by omega]
  | succ d ih =>
    intro q l hq h
    have hql : q < cs.length := by omega
    have e1 : wrap64 ((q : Int) + 1) = ((q + 1 : Nat) : Int) := by rw [w64 (by omega) (by omega)]; omega
    have hskip := ih (q + 1) l (by omega) h.skip
    have hj : ∀ x : Bool, (x = false → down = true → cs[q].2 ≠ 0) → ∃ k l', redraftlaw03_chosen.j1 k (sCells cs) a b down (sRng l) (q : Int) x = some (sRng l') ∧ Chs cs down cs.length l' := by
      intro x hx
      cases x with
      | true =>
        obtain ⟨k, l', hk, hl'⟩ := hskip
        exact ⟨k + 1, l', by rw [redraftlaw03_chosen.j1, if_pos rfl, e1]; exact hk, hl'⟩
      | false =>
        have hadd := ih (q + 1) (addR l q) (by omega) (h.add (fun hd => by
          rw [List.getD_eq_getElem?_getD, List.getElem?_eq_getElem hql]
          exact hx rfl hd))
        obtain ⟨k, l', hk, hl'⟩ := hadd
        refine ⟨k + 1, l', ?_, hl'⟩
        have hll := h.len
        rw [redraftlaw03_chosen.j1, if_neg (by decide), e1]
        rcases List.eq_nil_or_concat l with rfl | ⟨L, r, rfl⟩
        · rw [if_neg (by simp [sRng]), if_pos (by simp [sRng])]
          rw [addR_nil] at hk
          exact hk
        · rw [List.concat_eq_append] at *
          rw [addR_snoc] at hk
          have hlr : (sRng (L ++ [r])).length = L.length + 1 := by rw [sRng_len]; simp
          have hLb : L.length + 1 ≤ q := by simpa using hll
          have e2 : wrap64 (((sRng (L ++ [r])).length : Int) - 1) = (L.length : Int) := by rw [hlr, w64 (by omega) (by omega)]; omega
          have hrd : rd_T133 (sRng (L ++ [r])) (L.length : Int) = ⟨(r.1 : Int), (r.2 : Int)⟩ := by
            have := rd_sRng (l := L ++ [r]) (i := L.length) (by simp)
            rw [this]
            simp
          rw [if_pos (by omega), e2, if_pos (by omega), if_pos (by omega), hrd]
          dsimp only
          by_cases c : r.2 = q
          · rw [if_pos (by omega)]
            rw [if_pos c] at hk
            have hset : (sRng (L ++ [r])).set (L.length : Int).toNat ⟨(r.1 : Int), ((q + 1 : Nat) : Int)⟩ = sRng (L ++ [(r.1, q + 1)]) := by
              rw [Int.toNat_natCast, sRng_append, List.set_append_right _ _ (by rw [sRng_len]; exact Nat.le_refl _), sRng_len, Nat.sub_self, sRng_append]
              rfl
            rw [hset]
            exact hk
          · rw [if_neg (by omega), if_pos (by omega)]
            rw [if_neg c, sRng_append] at hk
            exact hk
    have r1 : redraftlaw03_rest.f a 7 = some (a % 7) := rest_is (by decide) (by decide)
    have r2 : redraftlaw03_rest.f b 11 = some (b % 11) := rest_is (by decide) (by decide)
    obtain ⟨z, hz⟩ : ∃ z, z = wrap64 (wrap64 ((q : Int) * (a % 7)) + b % 11) := ⟨_, rfl⟩
    have r3 : redraftlaw03_rest.f z 11 = some (z % 11) := rest_is (by decide) (by decide)
    have key : ∀ k, redraftlaw03_chosen.l0 (k + 1) (sCells cs) a b down (sRng l) (q : Int) = if z % 11 < 5 then (if down = true then redraftlaw03_chosen.j1 k (sCells cs) a b down (sRng l) (q : Int) (cs[q].2 == 0) else redraftlaw03_chosen.j1 k (sCells cs) a b down (sRng l) (q : Int) false) else redraftlaw03_chosen.j1 k (sCells cs) a b down (sRng l) (q : Int) true := by
      intro k
      rw [redraftlaw03_chosen.l0, if_pos (by rw [sCells_len]; omega), r1, Option.bind_some, r2, Option.bind_some, ← hz, r3, Option.bind_some, if_pos (Int.natCast_nonneg q), rd_sCells hql]
    by_cases c1 : z % 11 < 5
    · by_cases c2 : down = true
      · obtain ⟨k, l', hk, hl'⟩ := hj (cs[q].2 == 0) (fun e _ => by simpa using e)
        exact ⟨k + 1, l', by rw [key, if_pos c1, if_pos c2]; exact hk, hl'⟩
      · obtain ⟨k, l', hk, hl'⟩ := hj false (fun _ e => absurd e c2)
        exact ⟨k + 1, l', by rw [key, if_pos c1, if_neg c2]; exact hk, hl'⟩
    · obtain ⟨k, l', hk, hl'⟩ := hj true (fun e => by cases e)
      exact ⟨k + 1, l', by rw [key, if_neg c1]; exact hk, hl'⟩
theorem chosen_is (cs : List (Int × Int)) (hb : cs.length ≤ 32768) (a b : Int) (down : Bool) : ∃ k l, redraftlaw03_chosen.f k (sCells cs) a b down = some (sRng l) ∧ Norm l cs.length ∧ (down = true → ∀ r ∈ l, ∀ c ∈ (cs.take r.2).drop r.1, c.2 ≠ 0) := by
  obtain ⟨k, l, hk, h⟩ := chosen_l0 (cs := cs) (by omega) a b down cs.length 0 [] (by omega) (Chs.zero _ _)
  refine ⟨k, l, hk, ⟨h.one, fun i hi => ?_, by have := h.len; omega⟩, fun hd r hr c hc => ?_⟩
  · exact List.pairwise_iff_getElem.1 h.two i (i + 1) (by omega) hi (Nat.lt_succ_self _)
  · obtain ⟨i, hi, rfl⟩ := List.getElem_of_mem hc
    have hone := h.one r hr
    have hi' := hi
    rw [List.length_drop, List.length_take] at hi'
    have := h.hid r hr (r.1 + i) (Nat.le_add_right _ _) (by omega) hd
    rw [List.getD_eq_getElem?_getD, List.getElem?_eq_getElem (by omega)] at this
    simpa using this
end Go.Proofs.YteeigokkafcaaaaDoorRope
end
section
namespace Go.Proofs.YteeigokkafcaaaaDoorRope
open Go.RowKit Go.Proofs.YteeigokkafcaaaaDoorW.PrintWords Go.Proofs.YteeigokkafcaaaaDoorW.PrintMore Go.Proofs.YteeigokkafcaaaaDoor.Pr
set_option linter.unusedSimpArgs false
set_option linter.unusedVariables false
structure RowOk (H : Int) (cs : List (Int × Int)) : Prop where
  rn : ∀ c ∈ cs, Rn c.1
  h : ∀ c ∈ cs, 0 ≤ c.2 ∧ c.2 ≤ H
theorem cells4k {W : World} {g k : Nat} {a b c d : Value} (h : W.heap[g]? = some (Obj.cells #[a, b, c, d] k (0, 0))) : W.cell? ⟨g, 0, none⟩ = some a ∧ W.cell? ⟨g, 1, none⟩ = some b ∧ W.cell? ⟨g, 2, none⟩ = some c ∧ W.cell? ⟨g, 3, none⟩ = some d := by
  simp [World.cell?, h]
theorem RopeHas.lt {W : World} {b : Nat} {cs : List (Int × Int)} (h : RopeHas W b cs) : b < W.heap.size := by
  obtain ⟨K, t, h, _⟩ := h
  obtain ⟨v, hv, _⟩ := h.h
  exact new_lt hv
theorem Stand.row' {w W W' : World} {b : Nat} {A A' : Option Addr} {c c' : Nat} {cs cs' cs'' : List (Int × Int)} (h : Stand w W b A c cs cs') (hb : Below W.heap.size W W') {ok : Nat → Prop} (hr : Kd.R k36 36 W' W.heap.size ok (.slice A' cs''.length c') (sCells cs'')) : Stand w W' b A' c' cs'' cs' := by
  have h' := h.step hb
  refine ⟨h'.bel, h'.bars, ⟨W.heap.size, Kd.R_mono (Kd.R_bound hr) (fun k hk e => ?_)⟩, h'.rope, h'.lb, h'.nz⟩
  have := h.rope.lt
  have := hk.2.1
  omega
theorem RowOk.ins {H : Int} {cs : List (Int × Int)} (h : RowOk H cs) {at_ : Nat} {l : List Int} {hd : Int} (hl : ∀ r ∈ l, Rn r) (hh : 0 ≤ hd ∧ hd ≤ H) : RowOk (H + 1) (insC cs at_ l hd) := by
  refine ⟨ins_rn h.rn hl, fun c hm => ?_⟩
  rw [insC, List.mem_append, List.mem_append] at hm
  rcases hm with (hm | hm) | hm
  · have := h.h _ (List.mem_of_mem_take hm); omega
  · obtain ⟨r, hr, rfl⟩ := List.mem_map.1 hm; exact ⟨hh.1, by dsimp only; omega⟩
  · have := h.h _ (List.mem_of_mem_drop hm); omega
theorem bump1_mem {cs : List (Int × Int)} {r : Nat × Nat} {b : Int} {c : Int × Int} (h : c ∈ bump1 cs r b) : c ∈ cs ∨ ∃ d ∈ (cs.take r.2).drop r.1, c = (d.1, d.2 + b) := by
  rw [bump1, List.mem_append, List.mem_append] at h
  rcases h with (h | h) | h
  · exact .inl (List.mem_of_mem_take h)
  · obtain ⟨d, hd, rfl⟩ := List.mem_map.1 h
    exact .inr ⟨d, hd, rfl⟩
  · exact .inl (List.mem_of_mem_drop h)
theorem bumpC_mem {cs : List (Int × Int)} {l : List (Nat × Nat)} {b : Int} (hN : Norm l cs.length) : ∀ i, i ≤ l.length → ∀ c ∈ bumpC cs (l.take i) b, c ∈ cs ∨ ∃ r ∈ l, ∃ d ∈ (cs.take r.2).drop r.1, c = (d.1, d.2 + b) := by
  intro i
  induction i with
  | zero => intro _ c hc; exact .inl hc
  | succ i ih =>
    intro hi c hc
    have hil : i < l.length := by omega
    rw [bumpC_take hil] at hc
    rcases bump1_mem hc with h | ⟨d, hd, rfl⟩
    · exact ih (by omega) c h
    · rw [bumpC_mid hN hil] at hd
      exact .inr ⟨l[i], List.getElem_mem hil, d, hd, rfl⟩
theorem RowOk.bump {H : Int} {cs : List (Int × Int)} (h : RowOk H cs) {l : List (Nat × Nat)} {b : Int} (hN : Norm l cs.length) (hok : BumpOk cs l b) (hb : b ≤ 1) : RowOk (H + 1) (bumpC cs l b) := by
  have hm := bumpC_mem (b := b) hN l.length (Nat.le_refl _)
  rw [List.take_length] at hm
  refine ⟨fun c hc => ?_, fun c hc => ?_⟩
  · rcases hm c hc with h1 | ⟨r, hr, d, hd, rfl⟩
    · exact h.rn _ h1
    · exact h.rn d (List.mem_of_mem_take (List.mem_of_mem_drop hd))
  · rcases hm c hc with h1 | ⟨r, hr, d, hd, rfl⟩
    · have := h.h _ h1; omega
    · have := h.h _ (List.mem_of_mem_take (List.mem_of_mem_drop hd))
      have := hok r hr d hd
      dsimp only
      omega
end Go.Proofs.YteeigokkafcaaaaDoorRope
end
section
namespace Go.Proofs.YteeigokkafcaaaaDoorRope
open Go.RowKit Go.Proofs.YteeigokkafcaaaaDoorW.PrintWords Go.Proofs.YteeigokkafcaaaaDoorW.PrintMore Go.Proofs.YteeigokkafcaaaaDoor.Pr
set_option linter.unusedSimpArgs false
set_option linter.unusedVariables false
def BoxAt (W : World) (b : Nat) : Prop := ∃ p, W.heap[b]? = some (.cells #[.pointer p] 108 (0, 0))
theorem RopeHas.box {W : World} {b : Nat} {cs : List (Int × Int)} (h : RopeHas W b cs) : BoxAt W b := by
  obtain ⟨K, t, h, _⟩ := h
  obtain ⟨p, hv, _⟩ := h.blk
  exact ⟨p, hv⟩
end Go.Proofs.YteeigokkafcaaaaDoorRope
end
section
namespace Go.Proofs.YteeigokkafcaaaaDoorRope
open Go.RowKit Go.Proofs.YteeigokkafcaaaaDoorW.PrintWords Go.Proofs.YteeigokkafcaaaaDoorW.PrintMore Go.Proofs.YteeigokkafcaaaaDoor.Pr
set_option linter.unusedSimpArgs false
set_option linter.unusedVariables false
structure Sta (w W : World) (b : Nat) (A : Option Addr) (c : Nat) (cs cs' : List (Int × Int)) : Prop where
  gr : w.grownBy W (some b)
  bars : BarsAt W
  row : Row (fun k => k = b) W A c cs
  rope : RopeHas W b cs'
  nz : b ≠ 0
theorem grownBy_refl (W : World) (row : Option Nat) : W.grownBy W row := ⟨rfl, rfl, rfl, Nat.le_refl _, fun _ _ _ => rfl⟩
theorem grownBy_join {a w w' : World} {row : Option Nat} (h : a.grownBy w row) (k : w.grownBy w' row) : a.grownBy w' row :=
  ⟨k.os.trans h.os, k.tape.trans h.tape, k.output.trans h.output, Nat.le_trans h.size k.size, fun i hi hne => (k.block i (Nat.lt_of_lt_of_le hi h.size) hne).trans (h.block i hi hne)⟩
theorem grownBy_of_below {W W' : World} {row : Option Nat} (h : Below W.heap.size W W') : W.grownBy W' row := ⟨h.os, h.tape, h.output, h.size, fun k hk _ => h.block k hk⟩
section
variable {w W W' : World} {b : Nat} {A : Option Addr} {c : Nat} {cs cs' cs'' : List (Int × Int)}
theorem Sta.step (h : Sta w W b A c cs cs') (hb : Below W.heap.size W W') : Sta w W' b A c cs cs' :=
  ⟨grownBy_join h.gr (grownBy_of_below hb), h.bars.below hb, h.row.below hb, h.rope.below hb, h.nz⟩
theorem Sta.put (h : Sta w W b A c cs cs') (hg : W.grownBy W' (some b)) (hr : RopeHas W' b cs'') : Sta w W' b A c cs cs'' :=
  ⟨grownBy_join h.gr hg, h.bars.grown hg h.nz, h.row.grown hg rfl, hr, h.nz⟩
theorem Sta.row' {A' : Option Addr} {c' : Nat} (h : Sta w W b A c cs cs') (hb : Below W.heap.size W W') {ok : Nat → Prop} (hr : Kd.R k36 36 W' W.heap.size ok (.slice A' cs''.length c') (sCells cs'')) : Sta w W' b A' c' cs'' cs' ∧ Row (fun k => k < w.heap.size) W' A' c' cs'' := by
  have h' := h.step hb
  have hlt := h.rope.lt
  refine ⟨⟨h'.gr, h'.bars, ⟨W.heap.size, Kd.R_mono (Kd.R_bound hr) (fun k hk e => ?_)⟩, h'.rope, h'.nz⟩, ⟨W.heap.size, Kd.R_mono (Kd.R_bound hr) (fun k hk e => ?_)⟩⟩
  · have := hk.2.1
    omega
  · have := hk.2.1
    have := h.gr.size
    omega
end
noncomputable def choL (cs : List (Int × Int)) (a b : Int) (down : Bool) : List (Nat × Nat) := if h : cs.length ≤ 32768 then Classical.choose (Classical.choose_spec (chosen_is cs h a b down)) else []
theorem choL_is (cs : List (Int × Int)) (hb : cs.length ≤ 32768) (a b : Int) (down : Bool) : ∃ k, redraftlaw03_chosen.f k (sCells cs) a b down = some (sRng (choL cs a b down)) ∧ Norm (choL cs a b down) cs.length ∧ (down = true → ∀ r ∈ choL cs a b down, ∀ c ∈ (cs.take r.2).drop r.1, c.2 ≠ 0) := by
  refine ⟨Classical.choose (chosen_is cs hb a b down), ?_⟩
  rw [choL, dif_pos hb]
  exact Classical.choose_spec (Classical.choose_spec (chosen_is cs hb a b down))
noncomputable def actC (cs : List (Int × Int)) (kd ka kb kn : Int) : List (Int × Int) :=
  if kd = 0 then insC cs (ka % ((cs.length : Int) + 1)).toNat (wordsL ((kn % 48).toNat + 1) kb) (kb % 3)
  else if kd = 1 then bumpC cs (choL cs ka kb false) 1 else bumpC cs (choL cs ka kb true) (-1)
set_option maxRecDepth 100000 in
set_option maxHeartbeats 16000000 in
theorem actsD_put {w W : World} {b : Nat} {A : Option Addr} {c : Nat} {cs : List (Int × Int)} {H : Int} (S : Sta w W b A c cs cs) (hr : RowOk H cs) (hH : 2 ≤ H) (hl : cs.length ≤ 20000) (ka kb kn : Int) :
    Calls Tryd.prog 27 #[.pointer (some ⟨b, 0, none⟩), .slice A cs.length c, .agg #[.int .i64 0, .int .i64 ka, .int .i64 kb, .int .i64 kn]] W fun e w' => ∃ A' c', e = .returned (.tuple #[.slice A' (actC cs 0 ka kb kn).length c', .bool true]) ∧ Sta w w' b A' c' (actC cs 0 ka kb kn) (actC cs 0 ka kb kn) ∧ Row (fun k => k < w.heap.size) w' A' c' (actC cs 0 ka kb kn) ∧ RowOk (H + 1) (actC cs 0 ka kb kn) ∧ (actC cs 0 ka kb kn).length ≤ cs.length + 48 := by
  obtain ⟨N, hN⟩ : ∃ N, N = cs.length := ⟨_, rfl⟩
  have bN : (N : Int) ≤ 20000 := by omega
  have m1 := Int.emod_nonneg ka (show ((N : Int) + 1) ≠ 0 by omega)
  have m2 := Int.emod_lt_of_pos ka (show (0 : Int) < (N : Int) + 1 by omega)
  obtain ⟨at_, hat⟩ : ∃ at_ : Nat, ka % ((N : Int) + 1) = (at_ : Int) := ⟨(ka % ((N : Int) + 1)).toNat, by omega⟩
  have m3 := Int.emod_nonneg kn (show (48 : Int) ≠ 0 by decide)
  have m4 := Int.emod_lt_of_pos kn (show (0 : Int) < 48 by decide)
  obtain ⟨q, hq⟩ : ∃ q : Nat, kn % 48 = (q : Int) := ⟨(kn % 48).toNat, by omega⟩
  have m5 := Int.emod_nonneg kb (show (3 : Int) ≠ 0 by decide)
  have m6 := Int.emod_lt_of_pos kb (show (0 : Int) < 3 by decide)
  obtain ⟨hd, hhd⟩ : ∃ hd : Int, kb % 3 = hd := ⟨_, rfl⟩
  have hd0 : 0 ≤ hd ∧ hd ≤ 2 := by omega
  have hatN : at_ ≤ cs.length := by omega
  have hq48 : q < 48 := by omega
  clear m1 m2 m3 m4 m5 m6
  obtain ⟨s, hs⟩ : ∃ s, s = wordsL (q + 1) kb := ⟨_, rfl⟩
  have hsl : s.length = q + 1 := by rw [hs, wordsL_len]
  have hsL : Lets s := by rw [hs]; exact wordsL_lets _ _
  have hlen : (insC cs at_ s hd).length ≤ cs.length + 48 := by rw [insC_len]; omega
  rw [← hN] at hlen
  have hrow : RowOk (H + 1) (insC cs at_ s hd) := hr.ins hsL.rns (by omega)
  have bq : (q : Int) < 48 := by omega
  have R1 : ∀ W, Calls Tryd.prog 28 #[.int .i64 ka, .int .i64 ((N : Int) + 1)] W fun e w' => e = .returned (.int .i64 (at_ : Int)) ∧ Below W.heap.size W w' := fun W => by rw [← hat]; exact rest_b (by omega) (by omega) W
  have R2 : ∀ W : World, Calls Tryd.prog 28 #[.int .i64 kn, .int .i64 48] W fun e w' => e = .returned (.int .i64 (q : Int)) ∧ ∃ m, w' = W.drewN m := fun W => by
    refine (redraftlaw03_rest.calls kn 48 _ W (rest_is (by decide) (by decide))).mono ?_
    rintro e w' ⟨he, ⟨nd, hw⟩⟩
    rw [hq] at he
    exact ⟨he, nd, hw⟩
  have R3 : ∀ W, Calls Tryd.prog 28 #[.int .i64 kb, .int .i64 3] W fun e w' => e = .returned (.int .i64 hd) ∧ Below W.heap.size W w' := fun W => by rw [← hhd]; exact rest_b (by omega) (by omega) W
  have R4 : ∀ W : World, Calls Tryd.prog 29 #[.int .i64 (1 + (q : Int)), .int .i64 kb] W fun e w' => e = .returned (.string (txt s)) ∧ ∃ m, w' = W.drewN m := fun W => by
    rw [hs, show 1 + (q : Int) = ((q + 1 : Nat) : Int) by omega]
    refine (words_calls (q + 1) kb (by omega) W).mono ?_
    rintro e w' ⟨he, ⟨nd, hw⟩⟩
    exact ⟨he, nd, hw⟩
  have I1 : ∀ W, RopeHas W b cs → BarsAt W → Calls Tryd.prog 33 #[.pointer (some ⟨b, 0, none⟩), .int .i64 (at_ : Int), .string (txt s), .int .i64 hd] W fun e w' => e = .returned (.int .i64 0) ∧ RopeHas w' b (insC cs at_ s hd) ∧ W.grownBy w' (some b) := fun W h hw => rope_insert h hw hatN hsL (fun e => by rw [e] at hsl; simp at hsl) (by omega) (by omega)
  have I2 : ∀ W, Row (fun k => k = b) W A c cs → Calls Tryd.prog 52 #[.slice A N c, .int .i64 (at_ : Int), .string (txt s), .int .i64 hd] W fun e w' => ∃ A' c', e = .returned (.slice A' (insC cs at_ s hd).length c') ∧ Kd.R k36 36 w' W.heap.size (fun b => W.heap.size ≤ b) (.slice A' (insC cs at_ s hd).length c') (sCells (insC cs at_ s hd)) ∧ Below W.heap.size W w' := fun W h => by rw [hN]; exact put_calls hatN (by omega) hsL h.rd h.cap
  replace R1 := Lib.hid R1
  replace R2 := Lib.hid R2
  replace R3 := Lib.hid R3
  replace R4 := Lib.hid R4
  replace I1 := Lib.hid I1
  replace I2 := Lib.hid I2
  obtain ⟨st, hst⟩ : ∃ st, st = txt s := ⟨_, rfl⟩
  rw [← hst] at R4 I1 I2
  have hact : actC cs 0 ka kb kn = insC cs at_ s hd := by
    rw [actC, if_pos rfl, ← hN, hat, Int.toNat_natCast, hq, Int.toNat_natCast, hhd, ← hs]
  rw [hact]
  obtain ⟨cs', hcs'⟩ : ∃ cs', cs' = insC cs at_ s hd := ⟨_, rfl⟩
  rw [← hcs']
  rw [← hcs'] at I1 I2 hlen hrow
  have HLEN := Lib.hid hlen
  have HROW := Lib.hid hrow
  have hbx : (W.alloc (.cells #[.int .i64 0, .int .i64 ka, .int .i64 kb, .int .i64 kn] 44)).heap[W.heap.size]? = some (Obj.cells #[.int .i64 0, .int .i64 ka, .int .i64 kb, .int .i64 kn] 44 (0, 0)) := heap_new _ _
  have S1 := S.step (below_alloc (Below.refl _ W) (.cells #[.int .i64 0, .int .i64 ka, .int .i64 kb, .int .i64 kn] 44))
  rw [← hN]
  clear hact hat hq hhd hs hsl hsL hatN hq48 hlen hrow hr hH hl hst hcs' S hN
  go_enter Tryd.func27, Tryd.ntmps27
  go_wp2_with (go_at_call 28; refine (R1.out _).mono ?_; clear R1; rintro e w2 ⟨rfl, hb2⟩)
  have hbx2 := (hb2.block _ (new_lt hbx)).trans hbx
  have S2 := S1.step hb2
  obtain ⟨x0, x1, x2, x3⟩ := cells4k hbx2
  clear hbx hb2 S1
  go_quiet (first
      | (go_at_call 28; exact Calls.quiet_of (R2.out _))
      | (go_at_call 29; exact Calls.quiet_of (R4.out _)))
  have S3 := S2.step (pw_below_drewN (Below.refl _ w2) nq)
  go_wp2_with (first
    | (go_at_call 28; refine (R3.out _).mono ?_; clear R3; rintro e w5 ⟨rfl, hb5⟩; have S5 := S3.step hb5)
    | (go_at_call 33; refine (I1.out w5 S5.rope S5.bars).mono ?_; clear I1; rintro e w6 ⟨rfl, hro, hg⟩; have S6 := S5.put hg hro)
    | (go_at_call 52; refine (I2.out w6 S6.row).mono ?_; clear I2; rintro e w7 ⟨A', c', rfl, hR7, hb7⟩))
  go_ret2
  exact ⟨A', c', rfl, (S6.row' hb7 hR7).1, (S6.row' hb7 hR7).2, HROW.out, HLEN.out⟩
set_option maxRecDepth 100000 in
set_option maxHeartbeats 16000000 in
theorem actsD_up {w W : World} {b : Nat} {A : Option Addr} {c : Nat} {cs : List (Int × Int)} {H : Int} (S : Sta w W b A c cs cs) (hr : RowOk H cs) (hH : 2 ≤ H ∧ H ≤ 1000) (hl : cs.length ≤ 20000) (ka kb kn : Int) :
    Calls Tryd.prog 27 #[.pointer (some ⟨b, 0, none⟩), .slice A cs.length c, .agg #[.int .i64 1, .int .i64 ka, .int .i64 kb, .int .i64 kn]] W fun e w' => ∃ A' c', e = .returned (.tuple #[.slice A' (actC cs 1 ka kb kn).length c', .bool true]) ∧ Sta w w' b A' c' (actC cs 1 ka kb kn) (actC cs 1 ka kb kn) ∧ Row (fun k => k < w.heap.size) w' A' c' (actC cs 1 ka kb kn) ∧ RowOk (H + 1) (actC cs 1 ka kb kn) ∧ (actC cs 1 ka kb kn).length ≤ cs.length + 48 := by
  have hact : actC cs 1 ka kb kn = bumpC cs (choL cs ka kb false) 1 := by rw [actC, if_neg (by decide), if_pos rfl]
  rw [hact]
  clear hact
  obtain ⟨k, hk, hN, hdn⟩ := choL_is cs (by omega) ka kb false
  obtain ⟨l, hl_⟩ : ∃ l, l = choL cs ka kb false := ⟨_, rfl⟩
  rw [← hl_] at hk hN hdn ⊢
  clear hl_
  have hok : BumpOk cs l 1 := by
    intro r hr' d hd
    have h1 := hr.h d (List.mem_of_mem_take (List.mem_of_mem_drop hd))
    have h2 := fun h => hdn h r hr' d hd
    omega
  have hlen : (bumpC cs l 1).length = cs.length := bumpC_len hN
  have hrow : RowOk (H + 1) (bumpC cs l 1) := hr.bump hN hok (by decide)
  obtain ⟨kb', hkb⟩ := bumped_is hN (by omega) hok
  have hll := hN.len
  have B1 : ∀ W A' c', RopeHas W b cs → Kd.C k133 W A' l.length (sRng l) → l.length ≤ c' → Calls Tryd.prog 39 #[.pointer (some ⟨b, 0, none⟩), .slice A' l.length c', .int .i64 1] W fun e w' => e = .returned (.int .i64 0) ∧ RopeHas w' b (bumpC cs l 1) ∧ W.grownBy w' (some b) := fun W A' c' h h2 h3 => rope_bump h (.inl rfl) hN hok (by omega) h2 h3
  have C1 : ∀ W, Row (fun k => k = b) W A c cs → Calls Tryd.prog 68 #[.slice A cs.length c, .int .i64 ka, .int .i64 kb, .bool false] W fun e w' => ∃ A' c', e = .returned (.slice A' l.length c') ∧ Kd.R k133 133 w' W.heap.size (fun _ => True) (.slice A' l.length c') (sRng l) ∧ Below W.heap.size W w' := fun W h => by
    have h1 := h.rd
    have h2 := h.cap
    rw [← sCells_len cs] at h1 h2 ⊢
    refine (redraftlaw03_chosen.calls k A c (sCells cs) ka kb false (sRng l) W h1 h2 hk).mono ?_
    rintro e w' ⟨v, he, hR, hb⟩
    obtain ⟨A', c', hv⟩ := Kd.R_slice hR
    rw [sRng_len] at hv
    subst hv
    exact ⟨A', c', he, hR, hb⟩
  have C2 : ∀ W A' c', Row (fun k => k = b) W A c cs → Kd.C k133 W A' l.length (sRng l) → l.length ≤ c' → Calls Tryd.prog 50 #[.slice A cs.length c, .slice A' l.length c', .int .i64 1] W fun e w' => ∃ A' c', e = .returned (.slice A' (bumpC cs l 1).length c') ∧ Kd.R k36 36 w' W.heap.size (fun _ => True) (.slice A' (bumpC cs l 1).length c') (sCells (bumpC cs l 1)) ∧ Below W.heap.size W w' := fun W A' c' h h3 h4 => by
    have h1 := h.rd
    have h2 := h.cap
    rw [← sCells_len cs] at h1 h2 ⊢
    rw [← sRng_len l] at h3 h4 ⊢
    refine (redraftlaw03_bumped.calls kb' A c (sCells cs) A' c' (sRng l) 1 (sCells (bumpC cs l 1)) W h1 h2 h3 h4 hkb).mono ?_
    rintro e w' ⟨v, he, hR, hb⟩
    obtain ⟨A', c', hv⟩ := Kd.R_slice hR
    rw [sCells_len] at hv
    subst hv
    exact ⟨A', c', he, hR, hb⟩
  replace B1 := Lib.hid B1
  replace C1 := Lib.hid C1
  replace C2 := Lib.hid C2
  obtain ⟨cs', hcs'⟩ : ∃ cs', cs' = bumpC cs l 1 := ⟨_, rfl⟩
  rw [← hcs']
  rw [← hcs'] at B1 C2 hlen hrow
  have HLEN := Lib.hid hlen
  have HROW := Lib.hid hrow
  have HLL := Lib.hid hll
  have hbx : (W.alloc (.cells #[.int .i64 1, .int .i64 ka, .int .i64 kb, .int .i64 kn] 44)).heap[W.heap.size]? = some (Obj.cells #[.int .i64 1, .int .i64 ka, .int .i64 kb, .int .i64 kn] 44 (0, 0)) := heap_new _ _
  have S1 := S.step (below_alloc (Below.refl _ W) (.cells #[.int .i64 1, .int .i64 ka, .int .i64 kb, .int .i64 kn] 44))
  clear hk hN hdn hok hlen hrow hkb hll hr hH hl hcs' S
  go_enter Tryd.func27, Tryd.ntmps27
  go_wp2_with (first
    | (go_at_call 68; refine (C1.out _ S1.row).mono ?_; clear C1; rintro e w2 ⟨A2, c2, rfl, hR2, hb2⟩; have S2 := S1.step hb2; have hC2 : Kd.C k133 w2 A2 l.length (sRng l) := (by have := (Kd.R_reads' hR2).2.2; rwa [sRng_len] at this); have hc2 := (Kd.R_reads' hR2).2.1; have HL0 : Hid ((([] : List S133).length + l.length) * 16 ≤ 140737488355328) := Lib.hid (by have := HLL.out; simp only [List.length_nil]; omega))
    | ((with_reducible refine gate_builtin (b := .append) (xs := #[.const (.slice none 0 0), .tmp 58]) rfl ?_); at_builtin; refine Kd.R_append_rows k133 (w0 := w2) w2.heap.size rfl (.const (.slice none 0 0)) (.tmp 58) 61 133 (.agg #[.int .i64 0, .int .i64 0]) 16 rfl Tryd.underlying61 info133 rfl (by decide) (by decide) _ ([] : List S133) (sRng l) _ _ _ (fun b => w2.heap.size ≤ b) (fun _ => False) rfl rfl (Kd.R_nil _ _ _ _ _) hC2 (fun _ _ h => h) (fun _ h => h.elim) (fun _ h => h) (Below.refl _ _) (Nat.le_refl _) HL0.out ?_; intro v3 w3 hR3 hB3 hg3 hat3; clear hg3 hat3; rw [List.nil_append] at hR3; obtain ⟨A3, c3, hv3⟩ := Kd.R_slice hR3; rw [sRng_len] at hv3; subst hv3; have S3 := S2.step hB3; have hC3 : Kd.C k133 w3 A3 l.length (sRng l) := (by have := (Kd.R_reads' hR3).2.2; rwa [sRng_len] at this); have hc3 := (Kd.R_reads' hR3).2.1)
    | (go_at_call 39; refine (B1.out w3 A3 c3 S3.rope hC3 hc3).mono ?_; clear B1; rintro e w4 ⟨rfl, hro, hg⟩; have S4 := S3.put hg hro; have hlt := S1.rope.lt; have hR4 := Kd.R_step (w1 := w4) (Kd.R_mono (Kd.R_bound (Kd.R_below hR2 hB3)) (fun k hk => hk.2.1)) (fun k hk hl => hg.block k hl (fun e => by injection e with e; omega)); have hC4 : Kd.C k133 w4 A2 l.length (sRng l) := (by have := (Kd.R_reads' hR4).2.2; rwa [sRng_len] at this))
    | (go_at_call 50; refine (C2.out w4 A2 c2 S4.row hC4 hc2).mono ?_; clear C2; rintro e w5 ⟨A', c', rfl, hR5, hb5⟩))
  go_ret2
  exact ⟨A', c', rfl, (S4.row' hb5 hR5).1, (S4.row' hb5 hR5).2, HROW.out, by have := HLEN.out; omega⟩
set_option maxRecDepth 100000 in
set_option maxHeartbeats 16000000 in
theorem actsD_down {w W : World} {b : Nat} {A : Option Addr} {c : Nat} {cs : List (Int × Int)} {H : Int} (S : Sta w W b A c cs cs) (hr : RowOk H cs) (hH : 2 ≤ H ∧ H ≤ 1000) (hl : cs.length ≤ 20000) (kd ka kb kn : Int) (h0 : kd ≠ 0) (h1 : kd ≠ 1) :
    Calls Tryd.prog 27 #[.pointer (some ⟨b, 0, none⟩), .slice A cs.length c, .agg #[.int .i64 kd, .int .i64 ka, .int .i64 kb, .int .i64 kn]] W fun e w' => ∃ A' c', e = .returned (.tuple #[.slice A' (actC cs kd ka kb kn).length c', .bool true]) ∧ Sta w w' b A' c' (actC cs kd ka kb kn) (actC cs kd ka kb kn) ∧ Row (fun k => k < w.heap.size) w' A' c' (actC cs kd ka kb kn) ∧ RowOk (H + 1) (actC cs kd ka kb kn) ∧ (actC cs kd ka kb kn).length ≤ cs.length + 48 := by
  have hact : actC cs kd ka kb kn = bumpC cs (choL cs ka kb true) (-1) := by rw [actC, if_neg h0, if_neg h1]
  rw [hact]
  clear hact
  obtain ⟨k, hk, hN, hdn⟩ := choL_is cs (by omega) ka kb true
  obtain ⟨l, hl_⟩ : ∃ l, l = choL cs ka kb true := ⟨_, rfl⟩
  rw [← hl_] at hk hN hdn ⊢
  clear hl_
  have hok : BumpOk cs l (-1) := by
    intro r hr' d hd
    have h1 := hr.h d (List.mem_of_mem_take (List.mem_of_mem_drop hd))
    have h2 := fun h => hdn h r hr' d hd
    have h3 := h2 rfl
    omega
  have hlen : (bumpC cs l (-1)).length = cs.length := bumpC_len hN
  have hrow : RowOk (H + 1) (bumpC cs l (-1)) := hr.bump hN hok (by decide)
  obtain ⟨kb', hkb⟩ := bumped_is hN (by omega) hok
  have hll := hN.len
  have B1 : ∀ W A' c', RopeHas W b cs → Kd.C k133 W A' l.length (sRng l) → l.length ≤ c' → Calls Tryd.prog 39 #[.pointer (some ⟨b, 0, none⟩), .slice A' l.length c', .int .i64 (-1)] W fun e w' => e = .returned (.int .i64 0) ∧ RopeHas w' b (bumpC cs l (-1)) ∧ W.grownBy w' (some b) := fun W A' c' h h2 h3 => rope_bump h (.inr rfl) hN hok (by omega) h2 h3
  have C1 : ∀ W, Row (fun k => k = b) W A c cs → Calls Tryd.prog 68 #[.slice A cs.length c, .int .i64 ka, .int .i64 kb, .bool true] W fun e w' => ∃ A' c', e = .returned (.slice A' l.length c') ∧ Kd.R k133 133 w' W.heap.size (fun _ => True) (.slice A' l.length c') (sRng l) ∧ Below W.heap.size W w' := fun W h => by
    have h1 := h.rd
    have h2 := h.cap
    rw [← sCells_len cs] at h1 h2 ⊢
    refine (redraftlaw03_chosen.calls k A c (sCells cs) ka kb true (sRng l) W h1 h2 hk).mono ?_
    rintro e w' ⟨v, he, hR, hb⟩
    obtain ⟨A', c', hv⟩ := Kd.R_slice hR
    rw [sRng_len] at hv
    subst hv
    exact ⟨A', c', he, hR, hb⟩
  have C2 : ∀ W A' c', Row (fun k => k = b) W A c cs → Kd.C k133 W A' l.length (sRng l) → l.length ≤ c' → Calls Tryd.prog 50 #[.slice A cs.length c, .slice A' l.length c', .int .i64 (-1)] W fun e w' => ∃ A' c', e = .returned (.slice A' (bumpC cs l (-1)).length c') ∧ Kd.R k36 36 w' W.heap.size (fun _ => True) (.slice A' (bumpC cs l (-1)).length c') (sCells (bumpC cs l (-1))) ∧ Below W.heap.size W w' := fun W A' c' h h3 h4 => by
    have h1 := h.rd
    have h2 := h.cap
    rw [← sCells_len cs] at h1 h2 ⊢
    rw [← sRng_len l] at h3 h4 ⊢
    refine (redraftlaw03_bumped.calls kb' A c (sCells cs) A' c' (sRng l) (-1) (sCells (bumpC cs l (-1))) W h1 h2 h3 h4 hkb).mono ?_
    rintro e w' ⟨v, he, hR, hb⟩
    obtain ⟨A', c', hv⟩ := Kd.R_slice hR
    rw [sCells_len] at hv
    subst hv
    exact ⟨A', c', he, hR, hb⟩
  replace B1 := Lib.hid B1
  replace C1 := Lib.hid C1
  replace C2 := Lib.hid C2
  obtain ⟨cs', hcs'⟩ : ∃ cs', cs' = bumpC cs l (-1) := ⟨_, rfl⟩
  rw [← hcs']
  rw [← hcs'] at B1 C2 hlen hrow
  have HLEN := Lib.hid hlen
  have HROW := Lib.hid hrow
  have HLL := Lib.hid hll
  have hbx : (W.alloc (.cells #[.int .i64 kd, .int .i64 ka, .int .i64 kb, .int .i64 kn] 44)).heap[W.heap.size]? = some (Obj.cells #[.int .i64 kd, .int .i64 ka, .int .i64 kb, .int .i64 kn] 44 (0, 0)) := heap_new _ _
  have S1 := S.step (below_alloc (Below.refl _ W) (.cells #[.int .i64 kd, .int .i64 ka, .int .i64 kb, .int .i64 kn] 44))
  have d0 : (kd == 0) = false := beq_eq_false_iff_ne.mpr h0
  have d1 : (kd == 1) = false := beq_eq_false_iff_ne.mpr h1
  clear h0 h1
  clear hk hN hdn hok hlen hrow hkb hll hr hH hl hcs' S
  go_enter Tryd.func27, Tryd.ntmps27
  go_wp2_with (first
    | (go_at_call 68; refine (C1.out _ S1.row).mono ?_; clear C1; rintro e w2 ⟨A2, c2, rfl, hR2, hb2⟩; have S2 := S1.step hb2; have hC2 : Kd.C k133 w2 A2 l.length (sRng l) := (by have := (Kd.R_reads' hR2).2.2; rwa [sRng_len] at this); have hc2 := (Kd.R_reads' hR2).2.1; have HL0 : Hid ((([] : List S133).length + l.length) * 16 ≤ 140737488355328) := Lib.hid (by have := HLL.out; simp only [List.length_nil]; omega))
    | ((with_reducible refine gate_builtin (b := .append) (xs := #[.const (.slice none 0 0), .tmp 58]) rfl ?_); at_builtin; refine Kd.R_append_rows k133 (w0 := w2) w2.heap.size rfl (.const (.slice none 0 0)) (.tmp 58) 61 133 (.agg #[.int .i64 0, .int .i64 0]) 16 rfl Tryd.underlying61 info133 rfl (by decide) (by decide) _ ([] : List S133) (sRng l) _ _ _ (fun b => w2.heap.size ≤ b) (fun _ => False) rfl rfl (Kd.R_nil _ _ _ _ _) hC2 (fun _ _ h => h) (fun _ h => h.elim) (fun _ h => h) (Below.refl _ _) (Nat.le_refl _) HL0.out ?_; intro v3 w3 hR3 hB3 hg3 hat3; clear hg3 hat3; rw [List.nil_append] at hR3; obtain ⟨A3, c3, hv3⟩ := Kd.R_slice hR3; rw [sRng_len] at hv3; subst hv3; have S3 := S2.step hB3; have hC3 : Kd.C k133 w3 A3 l.length (sRng l) := (by have := (Kd.R_reads' hR3).2.2; rwa [sRng_len] at this); have hc3 := (Kd.R_reads' hR3).2.1)
    | (go_at_call 39; refine (B1.out w3 A3 c3 S3.rope hC3 hc3).mono ?_; clear B1; rintro e w4 ⟨rfl, hro, hg⟩; have S4 := S3.put hg hro; have hlt := S1.rope.lt; have hR4 := Kd.R_step (w1 := w4) (Kd.R_mono (Kd.R_bound (Kd.R_below hR2 hB3)) (fun k hk => hk.2.1)) (fun k hk hl => hg.block k hl (fun e => by injection e with e; omega)); have hC4 : Kd.C k133 w4 A2 l.length (sRng l) := (by have := (Kd.R_reads' hR4).2.2; rwa [sRng_len] at this))
    | (go_at_call 50; refine (C2.out w4 A2 c2 S4.row hC4 hc2).mono ?_; clear C2; rintro e w5 ⟨A', c', rfl, hR5, hb5⟩))
  go_ret2
  exact ⟨A', c', rfl, (S4.row' hb5 hR5).1, (S4.row' hb5 hR5).2, HROW.out, by have := HLEN.out; omega⟩
theorem actsD_calls {w W : World} {b : Nat} {A : Option Addr} {c : Nat} {cs : List (Int × Int)} {H : Int} (S : Sta w W b A c cs cs) (hr : RowOk H cs) (hH : 2 ≤ H ∧ H ≤ 1000) (hl : cs.length ≤ 20000) (kd ka kb kn : Int) :
    Calls Tryd.prog 27 #[.pointer (some ⟨b, 0, none⟩), .slice A cs.length c, .agg #[.int .i64 kd, .int .i64 ka, .int .i64 kb, .int .i64 kn]] W fun e w' => ∃ A' c', e = .returned (.tuple #[.slice A' (actC cs kd ka kb kn).length c', .bool true]) ∧ Sta w w' b A' c' (actC cs kd ka kb kn) (actC cs kd ka kb kn) ∧ Row (fun k => k < w.heap.size) w' A' c' (actC cs kd ka kb kn) ∧ RowOk (H + 1) (actC cs kd ka kb kn) ∧ (actC cs kd ka kb kn).length ≤ cs.length + 48 := by
  by_cases h0 : kd = 0
  · subst h0; exact actsD_put S hr hH.1 hl ka kb kn
  · by_cases h1 : kd = 1
    · subst h1; exact actsD_up S hr hH hl ka kb kn
    · exact actsD_down S hr hH hl kd ka kb kn h0 h1
end Go.Proofs.YteeigokkafcaaaaDoorRope
end
section
namespace Go.Proofs.YteeigokkafcaaaaDoorRope
open Go.RowKit Go.Proofs.YteeigokkafcaaaaDoorW.PrintWords Go.Proofs.YteeigokkafcaaaaDoorW.PrintMore Go.Proofs.YteeigokkafcaaaaDoor.Pr
set_option linter.unusedSimpArgs false
set_option linter.unusedVariables false
structure Few (l : List (List Int × Int)) : Prop where
  one : ∀ x ∈ l, x.1 ≠ []
  two : ∀ i (h : i + 1 < l.length), l[i + 1].2 ≠ l[i].2
theorem Few.nil : Few [] := ⟨by simp, by simp⟩
theorem Few.single {x : List Int × Int} (h : x.1 ≠ []) : Few [x] := ⟨by simpa using h, by simp⟩
theorem GoodRuns.few {l : List (List Int × Int)} (h : GoodRuns l) : Few l := ⟨fun x hx => (h.one x hx).1, h.two⟩
theorem Few.tail {x : List Int × Int} {l : List (List Int × Int)} (h : Few (x :: l)) : Few l := by
  refine ⟨fun y hy => h.one y (List.mem_cons_of_mem _ hy), fun i hi => ?_⟩
  have := h.two (i + 1) (by simpa using hi)
  simpa using this
theorem Few.snoc {o : List (List Int × Int)} {a : List Int} {h : Int} {rs : List Int} {h' : Int} (hf : Few (o ++ [(a, h)])) (hr : rs ≠ []) (hne : h' ≠ h) : Few (o ++ [(a, h)] ++ [(rs, h')]) := by
  refine ⟨fun x hx => ?_, fun i hi => ?_⟩
  · rcases List.mem_append.1 hx with hx | hx
    · exact hf.one x hx
    · rw [List.mem_singleton.1 hx]; exact hr
  · have hl : (o ++ [(a, h)]).length = o.length + 1 := by simp
    have hi' := hi
    rw [List.length_append, hl] at hi'
    simp only [List.length_cons, List.length_nil] at hi'
    have hlast : ∀ hj : o.length < (o ++ [(a, h)]).length, (o ++ [(a, h)])[o.length].2 = h := by simp
    obtain ⟨L, hL⟩ : ∃ L, L = o ++ [(a, h)] := ⟨_, rfl⟩
    rw [← hL] at hl hlast hf
    simp only [← hL]
    by_cases c : i + 1 < o.length + 1
    · rw [List.getElem_append_left (by omega), List.getElem_append_left (by omega)]
      exact hf.two i (by omega)
    · obtain rfl : i = o.length := by omega
      rw [List.getElem_append_right (by omega), List.getElem_append_left (by omega), hlast (by omega)]
      simpa [hl] using hne
theorem Few.grow {o : List (List Int × Int)} {a : List Int} {h : Int} (b : List Int) (hf : Few (o ++ [(a, h)])) : Few (o ++ [(a ++ b, h)]) := by
  refine ⟨fun x hx => ?_, fun i hi => ?_⟩
  · rcases List.mem_append.1 hx with hx | hx
    · exact hf.one x (List.mem_append_left _ hx)
    · rw [List.mem_singleton.1 hx]
      have := hf.one (a, h) (by simp)
      intro e
      exact this (List.append_eq_nil_iff.1 e).1
  · have key : ∀ (j : Nat) (hj : j < (o ++ [(a ++ b, h)]).length) (hj' : j < (o ++ [(a, h)]).length), (o ++ [(a ++ b, h)])[j].2 = (o ++ [(a, h)])[j].2 := by
      intro j hj hj'
      by_cases c : j < o.length
      · rw [List.getElem_append_left c, List.getElem_append_left c]
      · have : j = o.length := by simp at hj; omega
        subst this
        simp
    have hi' : i + 1 < (o ++ [(a, h)]).length := by simpa using hi
    rw [key _ _ hi', key _ _ (by omega)]
    exact hf.two i hi'
theorem rcells_cons (x : List Int × Int) (l : List (List Int × Int)) : rcells (x :: l) = x.1.map (fun c => (c, x.2)) ++ rcells l := by simp [rcells]
theorem few_head {x : List Int × Int} {l : List (List Int × Int)} (h : Few (x :: l)) : (rcells (x :: l)).takeWhile (fun c => c.2 == x.2) = x.1.map (fun c => (c, x.2)) := by
  rw [rcells_cons]
  have h1 : ∀ (a : List Int) (s : List (Int × Int)), (a.map (fun c => (c, x.2)) ++ s).takeWhile (fun c => c.2 == x.2) = a.map (fun c => (c, x.2)) ++ s.takeWhile (fun c => c.2 == x.2) := by
    intro a s
    induction a with
    | nil => rfl
    | cons r t ih => simp [List.takeWhile, ih]
  rw [h1]
  cases l with
  | nil => simp [rcells]
  | cons y t =>
    have hy := h.one y (by simp)
    have h2 := h.two 0 (by simp)
    obtain ⟨a, k⟩ := y
    cases a with
    | nil => exact absurd rfl hy
    | cons r a =>
      have hk : (k == x.2) = false := beq_eq_false_iff_ne.mpr (by simpa using h2)
      simp [rcells, List.takeWhile, hk]
theorem few_uniq : ∀ (l l' : List (List Int × Int)), Few l → Few l' → rcells l = rcells l' → l = l'
  | [], [], _, _, _ => rfl
  | [], y :: t, _, h', e => by
    have h1 := List.length_pos_iff.2 (h'.one y (by simp))
    rw [rcells_cons] at e
    have e' := congrArg List.length e
    rw [List.length_append, List.length_map] at e'
    simp only [rcells, List.flatMap_nil, List.length_nil] at e'
    omega
  | x :: t, [], h, _, e => by
    have h1 := List.length_pos_iff.2 (h.one x (by simp))
    rw [rcells_cons] at e
    have e' := congrArg List.length e
    rw [List.length_append, List.length_map] at e'
    simp only [rcells, List.flatMap_nil, List.length_nil] at e'
    omega
  | x :: t, y :: s, h, h', e => by
    have hx := h.one x (by simp)
    have hy := h'.one y (by simp)
    have hk : x.2 = y.2 := by
      obtain ⟨a, k⟩ := x
      obtain ⟨b, j⟩ := y
      cases a with
      | nil => exact absurd rfl hx
      | cons r a =>
        cases b with
        | nil => exact absurd rfl hy
        | cons q b =>
          rw [rcells_cons, rcells_cons] at e
          simp only [List.map_cons, List.cons_append] at e
          injection e with e _
          injection e
    have h1 := few_head h
    have h2 := few_head h'
    rw [e, hk, h2, ← hk] at h1
    have h3 : y.1 = x.1 := by
      have := congrArg (List.map Prod.fst) h1
      simpa [List.map_map, Function.comp_def] using this
    have hxy : x = y := Prod.ext h3.symm hk
    subst hxy
    rw [rcells_cons, rcells_cons, List.append_cancel_left_eq] at e
    rw [few_uniq t s h.tail h'.tail e]
def allR (o : List (List Int × Int)) (acc : List Int) (h : Int) : List (List Int × Int) := if acc = [] then o else o ++ [(acc, h)]
theorem allR_nil (o : List (List Int × Int)) (h : Int) : allR o [] h = o := rfl
structure RunsQ (C : List (Int × Int)) (q : Nat) (o : List (List Int × Int)) (acc : List Int) (h : Int) : Prop where
  few : Few (allR o acc h)
  cells : rcells (allR o acc h) = C.take q
  fresh : acc = [] → o = []
theorem RunsQ.zero (C : List (Int × Int)) : RunsQ C 0 [] [] 0 := ⟨Few.nil, rfl, fun _ => rfl⟩
theorem RunsQ.same {C : List (Int × Int)} {q : Nat} {o : List (List Int × Int)} {acc rs : List Int} {h : Int} (H : RunsQ C q o acc h) (hr : rs ≠ []) (hc : C.take (q + rs.length) = C.take q ++ rs.map (fun c => (c, h))) : RunsQ C (q + rs.length) o (acc ++ rs) h := by
  have hne : acc ++ rs ≠ [] := fun e => hr (List.append_eq_nil_iff.1 e).2
  by_cases c : acc = []
  · subst c
    have := H.fresh rfl
    subst this
    have h0 := H.cells
    refine ⟨?_, ?_, fun e => absurd e hne⟩
    · simp only [allR, List.nil_append, if_neg hr]; exact Few.single hr
    · rw [hc, ← h0]; simp [allR, rcells, hr]
  · have h1 := H.few
    have h2 := H.cells
    rw [allR, if_neg c] at h1 h2
    refine ⟨?_, ?_, fun e => absurd e hne⟩
    · rw [allR, if_neg hne]; exact h1.grow rs
    · rw [hc, ← h2, allR, if_neg hne]; simp [rcells]
theorem RunsQ.other {C : List (Int × Int)} {q : Nat} {o : List (List Int × Int)} {acc rs : List Int} {h h' : Int} (H : RunsQ C q o acc h) (hr : rs ≠ []) (hne : h' ≠ h) (hc : C.take (q + rs.length) = C.take q ++ rs.map (fun c => (c, h'))) : RunsQ C (q + rs.length) (allR o acc h) rs h' := by
  refine ⟨?_, ?_, fun e => absurd e hr⟩
  · rw [allR, if_neg hr]
    by_cases c : acc = []
    · subst c
      have := H.fresh rfl
      subst this
      exact Few.single hr
    · have h1 := H.few
      rw [allR, if_neg c] at h1 ⊢
      exact h1.snoc hr hne
  · rw [allR, if_neg hr, hc, ← H.cells]; simp [rcells]
theorem RunsQ.hid {C : List (Int × Int)} {q : Nat} {o : List (List Int × Int)} {acc : List Int} {h : Int} (H : RunsQ C q o acc h) : (allR o acc h).length ≤ q := by
  have h1 : ∀ (l : List (List Int × Int)), (∀ x ∈ l, x.1 ≠ []) → l.length ≤ (rcells l).length := by
    intro l
    induction l with
    | nil => intro _; simp
    | cons x t ih =>
      intro hx
      have := ih (fun y hy => hx y (List.mem_cons_of_mem _ hy))
      have h0 := List.length_pos_iff.2 (hx x (by simp))
      rw [rcells_cons, List.length_append, List.length_map, List.length_cons]
      omega
  have := h1 _ H.few.one
  rw [H.cells, List.length_take] at this
  omega
theorem RunsQ.acc {C : List (Int × Int)} {q : Nat} {o : List (List Int × Int)} {acc : List Int} {h : Int} (H : RunsQ C q o acc h) : acc.length ≤ q := by
  by_cases c : acc = []
  · subst c; simp
  · have := congrArg List.length H.cells
    rw [allR, if_neg c, List.length_take] at this
    simp [rcells] at this
    omega
end Go.Proofs.YteeigokkafcaaaaDoorRope
end
section
namespace Go.Proofs.YteeigokkafcaaaaDoorRope
open Go.RowKit Go.Proofs.YteeigokkafcaaaaDoorW.PrintWords Go.Proofs.YteeigokkafcaaaaDoorW.PrintMore Go.Proofs.YteeigokkafcaaaaDoor.Pr
set_option linter.unusedSimpArgs false
set_option linter.unusedVariables false
theorem Bld.row {B b : Nat} {acc : List Int} {W W' : World} (h : Bld B b acc W) {row : Option Nat} (hg : W.grownBy W' row) (hr : ∀ k, row = some k → ∃ c t, W.heap[k]? = some (Obj.cells c t (0, 0)) ∧ t ≠ 118 ∧ t ≠ 5) : Bld B b acc W' := by
  refine h.imp ?_ ?_ <;>
    · rintro ⟨hB, v', hv, hown, hne⟩
      refine ⟨hB, v', (hg.block b (new_lt hv) (fun e => ?_)).trans hv, hown.kept hg ?_, hne⟩
      · obtain ⟨c, t, hc, h1, _⟩ := hr b e.symm
        rw [hv] at hc
        injection hc with hc
        injection hc with _ hc _
        exact h1 hc.symm
      · rcases hvo : v'.ownBlock with _ | k
        · exact .inl rfl
        · refine .inr (fun e => ?_)
          obtain ⟨c, t, hc, _, h2⟩ := hr k e.symm
          obtain ⟨c', fz, hc'⟩ := Lib.ownsRowF_kind hown k hvo
          rw [hc] at hc'
          injection hc' with hc'
          injection hc' with _ hc' _
          exact h2 hc'
set_option maxRecDepth 100000 in
set_option maxHeartbeats 4000000 in
theorem reset_calls {B b : Nat} {acc : List Int} {W : World} (h : Bld B b acc W) : Calls Tryd.prog 64 #[.pointer (some ⟨b, 0, none⟩)] W fun e w' => e = .returned (.tuple #[]) ∧ Bld B b [] w' ∧ KpB B b W w' := by
  have hB := h.at.1
  have h' : ∃ p v, W.heap[b]? = some (.cells #[p, v] 118 (0, 0)) := by
    rcases h with ⟨_, v, hv, _⟩ | ⟨_, v, hv, _⟩ <;> exact ⟨_, v, hv⟩
  obtain ⟨p, v, hv⟩ := h'
  have y0 : W.cell? ⟨b, 0, none⟩ = some p := by simp [World.cell?, hv]
  have f0 : W.frozen? ⟨b, 0, none⟩ = false := by simp [World.frozen?, hv]
  have hv1 : (W.setCell ⟨b, 0, none⟩ (.pointer none)).heap[b]? = some (.cells #[.pointer none, v] 118 (0, 0)) := by simp [World.setCell, Array.getElem?_modify, hv]
  have y1 : (W.setCell ⟨b, 0, none⟩ (.pointer none)).cell? ⟨b, 1, none⟩ = some v := by simp [World.cell?, hv1]
  have f1 : (W.setCell ⟨b, 0, none⟩ (.pointer none)).frozen? ⟨b, 1, none⟩ = false := by simp [World.frozen?, hv1]
  have hv2 : ((W.setCell ⟨b, 0, none⟩ (.pointer none)).setCell ⟨b, 1, none⟩ (.slice none 0 0)).heap[b]? = some (.cells #[.pointer none, .slice none 0 0] 118 (0, 0)) := by
    simp [World.setCell, Array.getElem?_modify, hv]
  go_enter Tryd.func64, Tryd.ntmps64
  go_wp2
  go_end0
  refine ⟨rfl, .inl ⟨hB, _, hv2, ⟨by simp [utf, Lib.byteCells], .inl ⟨rfl, by simp [utf, Lib.byteCells]⟩⟩, by simp [Value.ownBlock]⟩, ⟨?_, ?_⟩⟩
  · exact ((Below.refl B W).setCell (p := ⟨b, 0, none⟩) hB _).setCell (p := ⟨b, 1, none⟩) hB _
  · exact Lib.OthersKept.setCell (Lib.OthersKept.setCell (Lib.OthersKept.refl 5 (some b) W) ⟨b, 0, none⟩ rfl _) ⟨b, 1, none⟩ rfl _
structure RunsS (B OUT b HID END : Nat) (w : World) (o : List (List Int × Int)) (acc : List Int) (hid : Int) (W : World) : Prop where
  out : ∃ v, W.heap[OUT]? = some (.cells #[v] 23 (0, 0)) ∧ Kd.R k58 58 W B (fun k => B ≤ k) v (sRuns o)
  bld : Bld B b acc W
  hc : W.heap[HID]? = some (.cells #[.int .i64 hid] 3 (0, 0))
  ec : W.heap[END]? = some (.cells #[.func (.func 61) #[] #[.pointer (some ⟨b, 0, none⟩), .pointer (some ⟨OUT, 0, none⟩), .pointer (some ⟨HID, 0, none⟩)]] 1 (0, 0))
  bel : Below B w W
  lo : B ≤ OUT
  lh : B ≤ HID
section
variable {B OUT b HID END : Nat} {w W W' : World} {o : List (List Int × Int)} {acc acc' : List Int} {hid : Int}
theorem RunsS.below (h : RunsS B OUT b HID END w o acc hid W) (hB : B ≤ W.heap.size) (hb : Below W.heap.size W W') : RunsS B OUT b HID END w o acc hid W' := by
  obtain ⟨v, hv, hR⟩ := h.out
  exact ⟨⟨v, (hb.block _ (new_lt hv)).trans hv, Kd.R_below hR hb⟩, h.bld.below hb, (hb.block _ (new_lt h.hc)).trans h.hc, (hb.block _ (new_lt h.ec)).trans h.ec, h.bel.trans (hb.mono hB), h.lo, h.lh⟩
theorem R58_kpb {ok : Nat → Prop} {base : Nat} {v : Value} (h : Kd.R k58 58 W base ok v (sRuns o)) (hk : KpB B b W W') (hb : ∃ c, W.heap[b]? = some (Obj.cells c 118 (0, 0))) : Kd.R k58 58 W' base ok v (sRuns o) := by
  refine Kd.R_mono (Kd.R_step (Kd.R_bound h) (fun k hk' hl => ?_)) (fun k hk => hk.1)
  obtain ⟨_, _, _, q, hq, cells, hc⟩ := hk'
  obtain rfl : q = 58 := by simpa using (show q ∈ [58] from hq)
  obtain ⟨c0, hb⟩ := hb
  rw [hc]
  exact hk.cells hc (by decide) (ty_ne hc hb (by decide))
theorem RunsS.kpb (h : RunsS B OUT b HID END w o acc hid W) (hk : KpB B b W W') (hb : Bld B b acc' W') : RunsS B OUT b HID END w o acc' hid W' := by
  obtain ⟨_, c0, hc0⟩ := h.bld.at
  obtain ⟨v, hv, hR⟩ := h.out
  exact ⟨⟨v, hk.cells hv (by decide) (ty_ne hv hc0 (by decide)), R58_kpb hR hk ⟨c0, hc0⟩⟩, hb, hk.cells h.hc (by decide) (ty_ne h.hc hc0 (by decide)), hk.cells h.ec (by decide) (ty_ne h.ec hc0 (by decide)), h.bel.trans hk.bl, h.lo, h.lh⟩
end
theorem R58_ne {ok : Nat → Prop} {W : World} {o : List (List Int × Int)} {base : Nat} {v : Value} (h : Kd.R k58 58 W base ok v (sRuns o)) {k : Nat} {c : Array Value} {t : Nat} (hk : W.heap[k]? = some (Obj.cells c t (0, 0))) (ht : t ≠ 58) : some k ≠ v.ownBlock := by
  intro e
  obtain ⟨cells, hc⟩ := Kd.N_typed (Kd.R_N h) k e.symm
  rw [hk] at hc
  injection hc with hc
  injection hc with _ hc _
  exact ht hc
theorem R58_typed {ok : Nat → Prop} {W : World} {o : List (List Int × Int)} {base : Nat} {v : Value} (h : Kd.R k58 58 W base ok v (sRuns o)) : ∀ k, v.ownBlock = some k → ∃ c t, W.heap[k]? = some (Obj.cells c t (0, 0)) ∧ t = 58 := fun k e => by
  obtain ⟨cells, hc⟩ := Kd.N_typed (Kd.R_N h) k e
  exact ⟨cells, 58, hc, rfl⟩
theorem RunsS.push {B OUT b HID END : Nat} {w W W4 : World} {o o' : List (List Int × Int)} {acc : List Int} {hid : Int} {v v4 : Value} (S : RunsS B OUT b HID END w o acc hid W) (hv : W.heap[OUT]? = some (.cells #[v] 23 (0, 0))) (hR : Kd.R k58 58 W B (fun k => B ≤ k) v (sRuns o)) (hR4 : Kd.R k58 58 W4 B (fun k => B ≤ k) v4 (sRuns o')) (hB : B ≤ W.heap.size) (hg : W.grownBy W4 v.ownBlock) :
    RunsS B OUT b HID END w o' acc hid (W4.setCell ⟨OUT, 0, none⟩ v4) ∧ KpW B W (W4.setCell ⟨OUT, 0, none⟩ v4) := by
  have hv4 := (hg.block _ (new_lt hv) (R58_ne hR hv (by decide))).trans hv
  have hB4 : Below B W W4 := ⟨hg.os, hg.tape, hg.output, hg.size, fun k hk => hg.block k (Nat.lt_of_lt_of_le hk hB) (fun e => by have h1 : B ≤ k := hR.1 k e.symm; omega)⟩
  have keep : ∀ (k : Nat) (c : Array Value) (t : Nat), W.heap[k]? = some (Obj.cells c t (0, 0)) → t ≠ 58 → t ≠ 23 → (W4.setCell ⟨OUT, 0, none⟩ v4).heap[k]? = some (Obj.cells c t (0, 0)) := by
    intro k c t hk h1 h2
    have h4 := (hg.block _ (new_lt hk) (R58_ne hR hk h1)).trans hk
    exact set_other h4 (ty_ne h4 hv4 h2)
  have hgs : W4.grownBy (W4.setCell ⟨OUT, 0, none⟩ v4) (some OUT) := ⟨rfl, rfl, rfl, by simp [World.setCell], fun i hi hne => Below.heap_setCell W4 ⟨OUT, 0, none⟩ v4 i (fun e => hne (by rw [show i = OUT from e]))⟩
  have hbl : Bld B b acc (W4.setCell ⟨OUT, 0, none⟩ v4) := by
    refine (S.bld.row hg (fun k e => ?_)).row hgs (fun k e => ?_)
    · obtain ⟨c, t, h1, h2⟩ := R58_typed hR k e
      exact ⟨c, t, h1, by rw [h2]; decide, by rw [h2]; decide⟩
    · injection e with e
      subst e
      exact ⟨_, 23, hv4, by decide, by decide⟩
  have hb' : Below B W (W4.setCell ⟨OUT, 0, none⟩ v4) := hB4.setCell (p := ⟨OUT, 0, none⟩) S.lo _
  refine ⟨⟨⟨v4, set1k hv4, ?_⟩, hbl, keep _ _ _ S.hc (by decide) (by decide), keep _ _ _ S.ec (by decide) (by decide), S.bel.trans hb', S.lo, S.lh⟩, ⟨hb', fun k c ty hty hk => keep k c ty hk (by rcases hty with rfl | rfl <;> decide) (by rcases hty with rfl | rfl <;> decide)⟩⟩
  refine Kd.R_mono (Kd.R_step (Kd.R_bound hR4) (fun k hk' hl => ?_)) (fun k hk => hk.1)
  obtain ⟨_, _, _, q, hq, cells, hc⟩ := hk'
  obtain rfl : q = 58 := by simpa using (show q ∈ [58] from hq)
  rw [hc]
  exact set_other hc (ty_ne hc hv4 (by decide))
theorem byteCells_utf_nil : (Lib.byteCells (utf [])).length = 0 := rfl
theorem byteCells_utf_pos {acc : List Int} (h : acc ≠ []) : 0 < (Lib.byteCells (utf acc)).length := by
  rw [Lib.byteCells_length]
  have := (utf_len acc).1
  have := List.length_pos_iff.2 h
  omega
set_option maxRecDepth 100000 in
set_option maxHeartbeats 16000000 in
theorem end_calls {B OUT b HID END : Nat} {w W : World} {o : List (List Int × Int)} {acc : List Int} {hid : Int} (S : RunsS B OUT b HID END w o acc hid W) (hB : B ≤ W.heap.size) (ho : o.length ≤ 1048576) (hacc : acc.length ≤ 1048576) :
    Calls Tryd.prog 61 #[.pointer (some ⟨b, 0, none⟩), .pointer (some ⟨OUT, 0, none⟩), .pointer (some ⟨HID, 0, none⟩)] W fun e w' => e = .returned (.tuple #[]) ∧ RunsS B OUT b HID END w (allR o acc hid) [] hid w' ∧ KpW B W w' := by
  obtain ⟨_, c0, hc0⟩ := S.bld.at
  by_cases hz : acc = []
  · subst hz
    rw [allR_nil]
    have hl := Tryd.Builder_Len_f B b _ W S.bld
    rw [byteCells_utf_nil] at hl
    go_enter Tryd.func61, Tryd.ntmps61
    go_wp2_with (first
      | (go_at_call 62; refine hl.mono ?_; rintro e w1 ⟨rfl, rfl⟩)
      | (go_at_call 64; refine (reset_calls S.bld).mono ?_; rintro e w2 ⟨rfl, hb2, k2⟩))
    go_end0
    exact ⟨rfl, S.kpb k2 hb2, k2.kpw hc0⟩
  · have hl := Tryd.Builder_Len_f B b _ W S.bld
    obtain ⟨n, hn⟩ : ∃ n, n = (Lib.byteCells (utf acc)).length := ⟨_, rfl⟩
    have hn0 := byteCells_utf_pos hz
    rw [← hn] at hl hn0
    have dn : decide (0 < n) = true := decide_eq_true hn0
    have hall : allR o acc hid = o ++ [(acc, hid)] := by rw [allR, if_neg hz]
    rw [hall]
    obtain ⟨v, hv, hR⟩ := S.out
    obtain ⟨A, c, rfl⟩ := Kd.R_slice hR
    have hlt := new_lt hv
    have hstr : ∀ W', Below W.heap.size W W' → Calls Tryd.prog 63 #[.pointer (some ⟨b, 0, none⟩)] W' fun e w' => e = .returned (.string (txt acc)) ∧ (Bld B b acc w' ∧ KpB B b W w') := fun W' hW => by
      refine (Tryd.Builder_String_any_k B b (utf acc) W' (S.bld.below hW) (Nat.le_trans hB hW.size)).mono ?_
      rintro e w' ⟨he, h1, h2, h3⟩
      exact ⟨he, h1, (KpB.of hW hB).trans ⟨h2, h3⟩⟩
    have HL : Hid (((sRuns o).length + 1) * 24 ≤ 140737488355328) := Lib.hid (by rw [show (sRuns o).length = o.length by simp [sRuns]]; omega)
    obtain ⟨y0, g0⟩ := cells1k hv
    obtain ⟨y1, _⟩ := cells1k S.hc
    have HSTR := Lib.hid hstr
    clear hn hn0 hz hall ho hacc hstr
    go_enter Tryd.func61, Tryd.ntmps61
    go_wp2_with (go_at_call 62; refine hl.mono ?_; rintro e w1 ⟨rfl, rfl⟩)
    go_region_law (first
      | (go_simp; go_at_call 63; refine (HSTR.out _ (by (repeat first | exact Below.refl _ _ | refine Below.drew ?_))).mono ?_; rintro e w3 ⟨rfl, hb3, k3⟩; have hv3 := k3.cells hv (by decide) (ty_ne hv hc0 (by decide)); have hh3 := k3.cells S.hc (by decide) (ty_ne S.hc hc0 (by decide)); have hz0 := cells1k hv3; have hz1 := cells1k hh3; obtain ⟨z0, zf⟩ := hz0; obtain ⟨z1, _⟩ := hz1; have q0 := pw_cell_below (below_alloc (Below.refl w3.heap.size w3) (.cells #[.string (txt acc), .int .i64 hid] 58)) z0; have hR3 := R58_kpb hR k3 ⟨_, hc0⟩)
      | (refine Kd.R_append_step k58 (w0 := w1) B (by rfl) (.tmp 5) (.tmp 9) 23 58 (.agg #[.string ByteArray.empty, .int .i64 0]) 24 rfl Tryd.underlying23 info58' rfl (by decide) (by decide) (.slice A (sRuns o).length c) (sRuns o) ⟨txt acc, hid⟩ [.string (txt acc), .int .i64 hid] (fun k => B ≤ k) (fun _ => False) rfl rfl (k58_mkM _ _ _ ⟨_, _⟩) (fun _ h => h.elim) (fun k hk => Nat.le_trans (Nat.le_trans hB k3.bl.size) hk) hR3 k3.bl (Nat.le_trans hB k3.bl.size) HL.out ?_; intro v4 w4 hR4 hB4 hg4 hat4; have hsl := Kd.R_slice hR4; obtain ⟨A4, c4, hvv⟩ := hsl; subst hvv; have hv4 := (hg4.block _ (new_lt hv3) (R58_ne hR3 hv3 (by decide))).trans hv3; have hx := cells1k hv4; obtain ⟨x0, x1⟩ := hx))
    all_goals
      have hR5 : Kd.R k58 58 w4 B (fun k => B ≤ k) (.slice A4 (sRuns o ++ [(⟨txt acc, hid⟩ : S58)]).length c4) (sRuns (o ++ [(acc, hid)])) := by rw [sRuns_snoc]; exact hR4
      obtain ⟨S5, k5⟩ := (S.kpb k3 hb3).push hv3 hR3 hR5 (Nat.le_trans hB k3.bl.size) hg4
      rw [List.length_append] at S5 k5
      obtain ⟨W5, hW5⟩ : ∃ W5, w4.setCell ⟨OUT, 0, none⟩ (.slice A4 ((sRuns o).length + [(⟨txt acc, hid⟩ : S58)].length) c4) = W5 := ⟨_, rfl⟩
      rw [hW5] at S5 k5
      have hW5' : w4.setCell ⟨OUT, 0, none⟩ (.slice A4 ((sRuns o).length + 1) c4) = W5 := hW5
      rw [hW5']
      clear hW5 hW5' hR4 hR5 hat4 hg4 hv4 x0 x1 q0 z0 zf z1 hR3 hh3 hv3 y0 g0 y1 hv hR HSTR hl
      simp only [Exit.then]
      go_at_K
      go_wp2_with (go_at_call 64; refine (reset_calls S5.bld).mono ?_; rintro e w6 ⟨rfl, hb6, k6⟩)
      go_end0
      obtain ⟨_, c1, hc1⟩ := S5.bld.at
      exact ⟨rfl, S5.kpb k6 hb6, (k3.kpw hc0).trans (k5.trans (k6.kpw hc1))⟩
end Go.Proofs.YteeigokkafcaaaaDoorRope
end
section
namespace Go.Proofs.YteeigokkafcaaaaDoorRope
open Go.RowKit Go.Proofs.YteeigokkafcaaaaDoorW.PrintWords Go.Proofs.YteeigokkafcaaaaDoorW.PrintMore Go.Proofs.YteeigokkafcaaaaDoor.Pr
set_option linter.unusedSimpArgs false
set_option linter.unusedVariables false
theorem RunsS.sethid {B OUT b HID END : Nat} {w W : World} {o : List (List Int × Int)} {acc : List Int} {hid : Int} (S : RunsS B OUT b HID END w o acc hid W) (h : Int) : RunsS B OUT b HID END w o acc h (W.setCell ⟨HID, 0, none⟩ (.int .i64 h)) ∧ KpW B W (W.setCell ⟨HID, 0, none⟩ (.int .i64 h)) := by
  obtain ⟨v, hv, hR⟩ := S.out
  have hk := KpW.set (v := .int .i64 h) S.lh S.hc
  refine ⟨⟨⟨v, set_other hv (ty_ne hv S.hc (by decide)), ?_⟩, S.bld.set _ S.hc, set1k S.hc, set_other S.ec (ty_ne S.ec S.hc (by decide)), S.bel.trans hk.b, S.lo, S.lh⟩, hk⟩
  refine Kd.R_mono (Kd.R_step (Kd.R_bound hR) (fun k hk' hl => ?_)) (fun k hk => hk.1)
  obtain ⟨_, _, _, q, hq, cells, hc⟩ := hk'
  obtain rfl : q = 58 := by simpa using (show q ∈ [58] from hq)
  rw [hc]
  exact set_other hc (ty_ne hc S.hc (by decide))
set_option maxRecDepth 100000 in
set_option maxHeartbeats 16000000 in
theorem runs2_same {B OUT b HID END : Nat} {w W : World} {o : List (List Int × Int)} {acc : List Int} {h : Int} (S : RunsS B OUT b HID END w o acc h W) (hB : B ≤ W.heap.size) (at_ : Int) {rs : List Int} {A : Option Addr} {c : Nat} (hr : RunesAt W A rs) (hA : ∀ ad, A = some ad → ad.block < B) (hrn : ∀ r ∈ rs, Rn r) (hal : acc.length + rs.length ≤ 1048576) :
    Calls Tryd.prog 66 #[.int .i64 at_, .agg #[.slice A rs.length c, .int .i64 h], .pointer (some ⟨HID, 0, none⟩), .pointer (some ⟨END, 0, none⟩), .pointer (some ⟨b, 0, none⟩)] W fun e w' => e = .returned (.bool true) ∧ RunsS B OUT b HID END w o (acc ++ rs) h w' ∧ KpW B W w' := by
  have HRN := Lib.hid hrn
  have HAL := Lib.hid hal
  have bl : (rs.length : Int) ≤ 1048576 := by omega
  obtain ⟨W1, hW1⟩ : ∃ W1, W.alloc (.cells #[.slice A rs.length c, .int .i64 h] 113) = W1 := ⟨_, rfl⟩
  have hb1 : Below W.heap.size W W1 := by rw [← hW1]; exact below_alloc (Below.refl _ W) _
  have z0 : W1.cell? ⟨W.heap.size, 0, none⟩ = some (.slice A rs.length c) := by rw [← hW1]; simp
  have z1 : W1.cell? ⟨W.heap.size, 1, none⟩ = some (.int .i64 h) := by rw [← hW1]; simp
  have S1 := S.below hB hb1
  have k1 := KpW.of hb1 hB
  have y1 := (cells1k S1.hc).1
  clear hrn hal
  go_enter Tryd.func66, Tryd.ntmps66
  go_wp2
  go_loopw [21] (fun i wr => ∃ k : Nat, k ≤ rs.length ∧ i = .int .i64 (k : Int) ∧ RunsS B OUT b HID END w o (acc ++ rs.take k) h wr ∧ KpW B W wr) (fun i _ => rs.length - (intOf i).toNat)
  case atStart => exact ⟨0, Nat.zero_le _, rfl, by simpa using S1, k1⟩
  case round =>
    obtain ⟨k, hkl, rfl, hI, hK⟩ := hrel
    by_cases hlt : k < rs.length
    · obtain ⟨ad, hAd, y0⟩ := Kd.at_int (hr.kept hA hK) (k : Int) (by omega) (by omega)
      subst hAd
      have e1 : rd rs (k : Int) = rs[k] := by
        show rs.getD (k : Int).toNat 0 = rs[k]
        rw [Int.toNat_natCast, List.getD_eq_getElem?_getD, List.getElem?_eq_getElem hlt]
        rfl
      rw [e1, Int.toNat_natCast] at y0
      have hR := HRN.out _ (List.getElem_mem hlt)
      have hbt := byte_take (acc := acc) hlt
      have hlen : (Lib.byteCells (utf (acc ++ rs.take k))).length + 4 ≤ 140737488355328 := by
        have := byte_len (acc ++ rs.take k)
        rw [List.length_append, List.length_take] at this
        have := HAL.out
        (try simp only [List.length_nil] at *)
        omega
      obtain ⟨r, hr'⟩ : ∃ r, r = rs[k] := ⟨_, rfl⟩
      rw [← hr'] at y0 hR hbt
      have HBT := Lib.hid hbt
      have hBw : B ≤ wr.heap.size := Nat.le_trans hB hK.b.size
      clear hbt hr' e1
      obtain ⟨r0, r1, r2⟩ := hR
      have r3 : -2147483648 ≤ r := by omega
      have r4 : r ≤ 2147483647 := by omega
      clear r0 r1 r2
      go_wp2_with (go_at_call 67; refine (Tryd.Builder_WriteRune_k B b _ r r3 r4 _ hI.bld hlen hBw).mono ?_; rintro e w2 ⟨rfl, h2, b2, k2⟩)
      go_roundw
      case rel =>
        obtain ⟨_, c9, hc9⟩ := hI.bld.at
        have h3 : Bld B b (acc ++ rs.take (k + 1)) w2 := by unfold Bld; rw [← HBT.out]; exact .inr h2
        exact ⟨k + 1, hlt, by go_num, hI.kpb ⟨b2, k2⟩ h3, hK.trans (KpB.kpw ⟨b2, k2⟩ hc9)⟩
      case measure => simp [intOf]; omega
    · obtain rfl : k = rs.length := by omega
      rw [List.take_length] at hI
      clear hlt hkl
      have d1 : decide (rs.length < rs.length) = false := decide_eq_false (Nat.lt_irrefl _)
      go_wp2
      go_ret
      exact ⟨rfl, hI, hK⟩
set_option maxRecDepth 100000 in
set_option maxHeartbeats 16000000 in
theorem runs2_other {B OUT b HID END : Nat} {w W : World} {o : List (List Int × Int)} {acc : List Int} {hid h : Int} (S : RunsS B OUT b HID END w o acc hid W) (hne : h ≠ hid) (hB : B ≤ W.heap.size) (at_ : Int) {rs : List Int} {A : Option Addr} {c : Nat} (hr : RunesAt W A rs) (hA : ∀ ad, A = some ad → ad.block < B) (hrn : ∀ r ∈ rs, Rn r) (ho : o.length ≤ 1048576) (hac : acc.length ≤ 1048576) (hal : rs.length ≤ 1048576) :
    Calls Tryd.prog 66 #[.int .i64 at_, .agg #[.slice A rs.length c, .int .i64 h], .pointer (some ⟨HID, 0, none⟩), .pointer (some ⟨END, 0, none⟩), .pointer (some ⟨b, 0, none⟩)] W fun e w' => e = .returned (.bool true) ∧ RunsS B OUT b HID END w (allR o acc hid) rs h w' ∧ KpW B W w' := by
  have HRN := Lib.hid hrn
  have HAL := Lib.hid hal
  have bl : (rs.length : Int) ≤ 1048576 := by omega
  have dn : (h == hid) = false := beq_eq_false_iff_ne.mpr hne
  obtain ⟨W1, hW1⟩ : ∃ W1, W.alloc (.cells #[.slice A rs.length c, .int .i64 h] 113) = W1 := ⟨_, rfl⟩
  have hb1 : Below W.heap.size W W1 := by rw [← hW1]; exact below_alloc (Below.refl _ W) _
  have hbx : W1.heap[W.heap.size]? = some (.cells #[.slice A rs.length c, .int .i64 h] 113 (0, 0)) := by rw [← hW1]; exact heap_new _ _
  have z0 : W1.cell? ⟨W.heap.size, 0, none⟩ = some (.slice A rs.length c) := by rw [← hW1]; simp
  have z1 : W1.cell? ⟨W.heap.size, 1, none⟩ = some (.int .i64 h) := by rw [← hW1]; simp
  have S1 := S.below hB hb1
  have hB1 := Nat.le_trans hB hb1.size
  have k1 := KpW.of hb1 hB
  have y1 := (cells1k S1.hc).1
  have y2 := (cells1k S1.ec).1
  have hend := end_calls S1 hB1 ho hac
  have HEND := Lib.hid hend
  clear hrn hal ho hac hend hne
  go_enter Tryd.func66, Tryd.ntmps66
  go_wp2_with (go_at_call 61; refine HEND.out.mono ?_; rintro e w3 ⟨rfl, S3, k3⟩; have hbx3 := k3.n _ _ _ (.inr rfl) hbx; have hz3 := cells2 hbx3; obtain ⟨u0, u1⟩ := hz3; have hy3 := cells1k S3.hc; obtain ⟨y3, f3⟩ := hy3; have h4 := S3.sethid h; obtain ⟨S4, k4⟩ := h4; have hbx4 := k4.n _ _ _ (.inr rfl) hbx3; have hz4 := cells2 hbx4; obtain ⟨t0, t1⟩ := hz4)
  have kA := k1.trans (k3.trans k4)
  go_loopw [21] (fun i wr => ∃ k : Nat, k ≤ rs.length ∧ i = .int .i64 (k : Int) ∧ RunsS B OUT b HID END w (allR o acc hid) (([] : List Int) ++ rs.take k) h wr ∧ KpW B W wr) (fun i _ => rs.length - (intOf i).toNat)
  case atStart => exact ⟨0, Nat.zero_le _, rfl, by simpa using S4, kA⟩
  case round =>
    obtain ⟨k, hkl, rfl, hI, hK⟩ := hrel
    by_cases hlt : k < rs.length
    · obtain ⟨ad, hAd, y0⟩ := Kd.at_int (hr.kept hA hK) (k : Int) (by omega) (by omega)
      subst hAd
      have e1 : rd rs (k : Int) = rs[k] := by
        show rs.getD (k : Int).toNat 0 = rs[k]
        rw [Int.toNat_natCast, List.getD_eq_getElem?_getD, List.getElem?_eq_getElem hlt]
        rfl
      rw [e1, Int.toNat_natCast] at y0
      have hR := HRN.out _ (List.getElem_mem hlt)
      have hbt := byte_take (acc := ([] : List Int)) hlt
      have hlen : (Lib.byteCells (utf (([] : List Int) ++ rs.take k))).length + 4 ≤ 140737488355328 := by
        have := byte_len (([] : List Int) ++ rs.take k)
        rw [List.length_append, List.length_take] at this
        have := HAL.out
        (try simp only [List.length_nil] at *)
        omega
      obtain ⟨r, hr'⟩ : ∃ r, r = rs[k] := ⟨_, rfl⟩
      rw [← hr'] at y0 hR hbt
      have HBT := Lib.hid hbt
      have hBw : B ≤ wr.heap.size := Nat.le_trans hB hK.b.size
      clear hbt hr' e1
      obtain ⟨r0, r1, r2⟩ := hR
      have r3 : -2147483648 ≤ r := by omega
      have r4 : r ≤ 2147483647 := by omega
      clear r0 r1 r2
      go_wp2_with (go_at_call 67; refine (Tryd.Builder_WriteRune_k B b _ r r3 r4 _ hI.bld hlen hBw).mono ?_; rintro e w2 ⟨rfl, h2, b2, k2⟩)
      go_roundw
      case rel =>
        obtain ⟨_, c9, hc9⟩ := hI.bld.at
        have h3 : Bld B b (([] : List Int) ++ rs.take (k + 1)) w2 := by unfold Bld; rw [← HBT.out]; exact .inr h2
        exact ⟨k + 1, hlt, by go_num, hI.kpb ⟨b2, k2⟩ h3, hK.trans (KpB.kpw ⟨b2, k2⟩ hc9)⟩
      case measure => simp [intOf]; omega
    · obtain rfl : k = rs.length := by omega
      rw [List.take_length] at hI
      clear hlt hkl
      have d1 : decide (rs.length < rs.length) = false := decide_eq_false (Nat.lt_irrefl _)
      go_wp2
      go_ret
      exact ⟨rfl, hI, hK⟩
end Go.Proofs.YteeigokkafcaaaaDoorRope
end
section
namespace Go.Proofs.YteeigokkafcaaaaDoorRope
open Go.RowKit Go.Proofs.YteeigokkafcaaaaDoorW.PrintWords Go.Proofs.YteeigokkafcaaaaDoorW.PrintMore Go.Proofs.YteeigokkafcaaaaDoor.Pr
set_option linter.unusedSimpArgs false
set_option linter.unusedVariables false
theorem run_store_fn {P : Program} {w : World} (a : Addr) (m : Mode) (f : Fn) {x1 : _} {x2 : _} : (store a (.func f x1 x2) m).run P w = stored P w a (.func f x1 x2) m := run_store P w a _ m rfl
attribute [local go_sem] run_store_fn
theorem At.take {C : List (Int × Int)} {q : Nat} {s : List (Int × Int)} (h : At C q s) : C.take (q + s.length) = C.take q ++ s := by
  obtain ⟨X, Y, rfl, rfl⟩ := h
  have e1 : List.take X.length (X ++ s ++ Y) = X := by rw [List.append_assoc, List.take_left]
  have e2 : List.take (X.length + s.length) (X ++ s ++ Y) = X ++ s := by
    rw [show X.length + s.length = (X ++ s).length by simp, List.take_left]
  rw [e1, e2]
def RunsJ (B OUT b HID END : Nat) (w : World) (C : List (Int × Int)) (q : Nat) (W : World) : Prop := ∃ o acc hid, RunsQ C q o acc hid ∧ q ≤ C.length ∧ RunsS B OUT b HID END w o acc hid W
theorem see66 {B OUT b HID END : Nat} {w : World} {C : List (Int × Int)} (hC : C.length ≤ 1048576) (hN : ∀ c ∈ C, Rn c.1) (at_ : Nat) (p : Pc) (W : World) (hj : RunsJ B OUT b HID END w C at_ W) (ha : At C at_ p.cells) (hr : RunesAt W p.A p.rs) (hA : ∀ ad, p.A = some ad → ad.block < B) (hne : p.rs ≠ []) (hB : B ≤ W.heap.size) :
    Calls Tryd.prog 66 #[.int .i64 (at_ : Int), .agg #[.slice p.A p.rs.length p.c, .int .i64 p.hid], .pointer (some ⟨HID, 0, none⟩), .pointer (some ⟨END, 0, none⟩), .pointer (some ⟨b, 0, none⟩)] W fun e w' => (e = .returned (.bool true) ∧ RunsJ B OUT b HID END w C (at_ + p.rs.length) w' ∧ KpW B W w') ∨ (e = .returned (.bool false) ∧ False) := by
  obtain ⟨o, acc, hid, hq, hqC, S⟩ := hj
  have hle := ha.le
  have htk := ha.take
  have hpl : p.cells.length = p.rs.length := by simp [Pc.cells]
  rw [hpl] at hle htk
  have hrn : ∀ r ∈ p.rs, Rn r := by
    intro r hr'
    have : (r, p.hid) ∈ C := by
      obtain ⟨X, Y, hXY, _⟩ := ha
      rw [hXY]
      simp only [List.mem_append]
      exact .inl (.inr (List.mem_map.2 ⟨r, hr', rfl⟩))
    exact hN _ this
  have h1 := hq.hid
  have h2 := hq.acc
  by_cases c : p.hid = hid
  · subst c
    refine (runs2_same S hB at_ hr hA hrn (by omega)).mono ?_
    rintro e w' ⟨he, S', k'⟩
    exact .inl ⟨he, ⟨_, _, _, hq.same hne htk, hle, S'⟩, k'⟩
  · have h3 : o.length ≤ (allR o acc hid).length := by
      unfold allR
      split <;> simp
    refine (runs2_other S c hB at_ hr hA hrn (by omega) (by omega) (by omega)).mono ?_
    rintro e w' ⟨he, S', k'⟩
    exact .inl ⟨he, ⟨_, _, _, hq.other hne c htk, hle, S'⟩, k'⟩
set_option maxRecDepth 100000 in
set_option maxHeartbeats 16000000 in
theorem runs_of {K0 : Nat → Prop} {W : World} {b0 : Nat} {t : Tree} (h : RopeAt K0 W b0 t) (hsz : t.cells.length ≤ 1048576) (hN : ∀ c ∈ t.cells, Rn c.1) :
    Calls Tryd.prog 23 #[.pointer (some ⟨b0, 0, none⟩)] W fun e w' => ∃ A c L, e = .returned (.slice A (sRuns L).length c) ∧ Kd.R k58 58 w' W.heap.size (fun k => W.heap.size ≤ k) (.slice A (sRuns L).length c) (sRuns L) ∧ Few L ∧ rcells L = t.cells ∧ Below W.heap.size W w' := by
  obtain ⟨p0, hv, hE, hn, hlt⟩ := h.blk
  have ht := hE.t _ List.mem_cons_self
  have ht2 := Rpo.of (ht.rep.bound ht.good)
  have ht3 : Rpo (fun k => k < W.heap.size) W t (.pointer p0) := ht2.mono (fun k hk => hk.2)
  have y00 : W.cell? ⟨b0, 0, none⟩ = some (.pointer p0) := by simp [World.cell?, hv]
  obtain ⟨fv, hfv⟩ : ∃ fv : Value, fv = .func (.func 61) #[] #[.pointer (some ⟨W.heap.size + 1, 0, none⟩), .pointer (some ⟨W.heap.size, 0, none⟩), .pointer (some ⟨W.heap.size + 1 + 1, 0, none⟩)] := ⟨_, rfl⟩
  obtain ⟨W5, hW5⟩ : ∃ W5, ((((W.alloc (.cells #[.slice none 0 0] 23)).alloc (.cells #[.pointer none, .slice none 0 0] 118)).alloc (.cells #[.int .i64 0] 3)).alloc (.cells #[.func (.func 61) #[] #[.pointer (some ⟨W.heap.size + 1, 0, none⟩), .pointer (some ⟨W.heap.size, 0, none⟩), .pointer (some ⟨W.heap.size + 1 + 1, 0, none⟩)]] 1)) = W5 := ⟨_, rfl⟩
  have hb5 : Below W.heap.size W W5 := by rw [← hW5]; exact below_alloc (below_alloc (below_alloc (below_alloc (Below.refl _ W) _) _) _) _
  have o1 : W5.heap[W.heap.size]? = some (Obj.cells #[.slice none 0 0] 23 (0, 0)) := by
    rw [← hW5]; exact ((below_alloc (below_alloc (below_alloc (Below.refl _ _) _) _) _).block _ (by simp)).trans (heap_new W _)
  have o2 : W5.heap[W.heap.size + 1]? = some (Obj.cells #[.pointer none, .slice none 0 0] 118 (0, 0)) := by
    rw [← hW5]
    have := heap_new (W.alloc (.cells #[.slice none 0 0] 23)) (.cells #[.pointer none, .slice none 0 0] 118)
    rw [World.size_alloc] at this
    exact ((below_alloc (below_alloc (Below.refl _ _) _) _).block _ (by simp)).trans this
  have o3 : W5.heap[W.heap.size + 1 + 1]? = some (Obj.cells #[.int .i64 0] 3 (0, 0)) := by
    rw [← hW5]
    have := heap_new ((W.alloc (.cells #[.slice none 0 0] 23)).alloc (.cells #[.pointer none, .slice none 0 0] 118)) (.cells #[.int .i64 0] 3)
    rw [World.size_alloc, World.size_alloc] at this
    exact ((below_alloc (Below.refl _ _) _).block _ (by simp)).trans this
  have o4 : W5.heap[W.heap.size + 1 + 1 + 1]? = some (Obj.cells #[.func (.func 61) #[] #[.pointer (some ⟨W.heap.size + 1, 0, none⟩), .pointer (some ⟨W.heap.size, 0, none⟩), .pointer (some ⟨W.heap.size + 1 + 1, 0, none⟩)]] 1 (0, 0)) := by
    rw [← hW5]
    have := heap_new (((W.alloc (.cells #[.slice none 0 0] 23)).alloc (.cells #[.pointer none, .slice none 0 0] 118)).alloc (.cells #[.int .i64 0] 3)) (.cells #[.func (.func 61) #[] #[.pointer (some ⟨W.heap.size + 1, 0, none⟩), .pointer (some ⟨W.heap.size, 0, none⟩), .pointer (some ⟨W.heap.size + 1 + 1, 0, none⟩)]] 1)
    rwa [World.size_alloc, World.size_alloc, World.size_alloc] at this
  have S5 : RunsS W.heap.size W.heap.size (W.heap.size + 1) (W.heap.size + 1 + 1) (W.heap.size + 1 + 1 + 1) W [] [] 0 W5 :=
    ⟨⟨_, o1, Kd.R_nil _ _ _ _ _⟩, .inl ⟨Nat.le_succ _, _, o2, ⟨rfl, .inl ⟨rfl, rfl⟩⟩, by simp [Value.ownBlock]⟩, o3, o4, hb5, Nat.le_refl _, by omega⟩
  have y5 := pw_cell_below hb5 y00
  have hwk := walk_66 (B := W.heap.size) (C := t.cells) (lo := 0) (J := RunsJ W.heap.size W.heap.size (W.heap.size + 1) (W.heap.size + 1 + 1) (W.heap.size + 1 + 1 + 1) W t.cells) (Jx := fun _ => False) (k0 := .pointer (some ⟨W.heap.size + 1 + 1, 0, none⟩)) (k1 := .pointer (some ⟨W.heap.size + 1 + 1 + 1, 0, none⟩)) (k2 := .pointer (some ⟨W.heap.size + 1, 0, none⟩)) hsz (Nat.zero_le _)
    (fun at_ p W' hj _ ha hr hA _ hne _ hB' => see66 hsz hN at_ p W' hj ha hr hA hne hB')
    (fun at_ n W' hj hn => by rw [show at_ + n = at_ by omega]; exact hj)
    (fun at_ W' W'' hj hb' => by obtain ⟨o, acc, hid, hq, hqC, S⟩ := hj; exact ⟨o, acc, hid, hq, hqC, S.below (Nat.le_trans S.bel.size (Nat.le_refl _)) hb'⟩)
    t.size t (.pointer p0) W5 0 (Nat.le_refl _) (ht3.below hb5) ht.good hb5.size (At.all _) ⟨[], [], 0, RunsQ.zero _, Nat.zero_le _, S5⟩
  rw [Nat.zero_add] at hwk
  replace hwk := hwk.mono (fun e w' h => h.elim id (fun h => h.2.elim))
  have HWK := Lib.hid hwk
  have HSZ := Lib.hid hsz
  clear hwk o1 o2 o3 o4 S5 hfv fv hsz
  go_enter Tryd.func23, Tryd.ntmps23
  go_wp2_with (first
    | (go_at_call 65; refine HWK.out.mono ?_; rintro e w6 ⟨rfl, hj6, k6⟩; obtain ⟨o, acc, hid, hq, _, S6⟩ := hj6; have y6 := (cells1k S6.ec).1; have hB6 := S6.bel.size; have h1 := hq.hid; have h2 := hq.acc; have h3 : o.length ≤ (allR o acc hid).length := (by unfold allR; split <;> simp); have hend := end_calls S6 hB6 (by have := HSZ.out; omega) (by have := HSZ.out; omega); have HEND := Lib.hid hend; clear h1 h2 h3 hend)
    | (go_at_call 61; refine HEND.out.mono ?_; rintro e w7 ⟨rfl, S7, k7⟩; have ho7 := S7.out; obtain ⟨v7, hv7, hR7⟩ := ho7; have hs7 := Kd.R_slice hR7; obtain ⟨A7, c7, hvv⟩ := hs7; subst hvv; have y7 := (cells1k hv7).1))
  go_ret
  refine ⟨A7, c7, allR o acc hid, rfl, hR7, hq.few, ?_, S7.bel⟩
  rw [hq.cells, List.take_length]
theorem rope_runs {W : World} {b : Nat} {cs : List (Int × Int)} (h : RopeHas W b cs) (hsz : cs.length ≤ 1048576) (hN : ∀ c ∈ cs, Rn c.1) : Calls Tryd.prog 23 #[.pointer (some ⟨b, 0, none⟩)] W fun e w' => ∃ A c L, e = .returned (.slice A L.length c) ∧ Kd.R k58 58 w' W.heap.size (fun k => W.heap.size ≤ k) (.slice A L.length c) (sRuns L) ∧ Few L ∧ rcells L = cs ∧ Below W.heap.size W w' := by
  obtain ⟨K, t, h, rfl⟩ := h
  refine (runs_of h hsz hN).mono ?_
  rintro e w' ⟨A, c, L, he, hR, hf, hc, hb⟩
  rw [show (sRuns L).length = L.length by simp [sRuns]] at he hR
  exact ⟨A, c, L, he, hR, hf, hc, hb⟩
end Go.Proofs.YteeigokkafcaaaaDoorRope
end
section
namespace Go.Proofs.YteeigokkafcaaaaDoorRope
open Go.RowKit Go.Proofs.YteeigokkafcaaaaDoorW.PrintWords Go.Proofs.YteeigokkafcaaaaDoorW.PrintMore Go.Proofs.YteeigokkafcaaaaDoor.Pr
set_option linter.unusedSimpArgs false
set_option linter.unusedVariables false
theorem inc64b {i : Nat} (h : i ≤ 2097152) : wrap64 ((i : Int) + 1) = ((i + 1 : Nat) : Int) := by rw [w64 (by omega) (by omega)]; omega
theorem eqRuns_l0 {l : List S58} (hl : l.length ≤ 1048576) : ∀ (d i : Nat), i + d = l.length → redraftlaw03_EqRuns.l0 (d + 1) l l (i : Int) = some true := by
  intro d
  induction d with
  | zero =>
    intro i hi
    have c1 : ¬ (i : Int) < (l.length : Int) := by omega
    rw [redraftlaw03_EqRuns.l0, if_neg c1]
  | succ d ih =>
    intro i hi
    have hih := ih (i + 1) (by omega)
    have c1 : (i : Int) < (l.length : Int) := by omega
    have b1 : i ≤ 2097152 := by omega
    rw [redraftlaw03_EqRuns.l0, if_pos c1, if_pos (Int.natCast_nonneg i), if_pos c1, if_neg (by simp), inc64b b1]
    exact hih
theorem eqRuns_calls {l : List S58} (hl : l.length ≤ 1048576) {w : World} {A B : Option Addr} {c d : Nat} (hA : Kd.C k58 w A l.length l) (hc : l.length ≤ c) (hB : Kd.C k58 w B l.length l) (hd : l.length ≤ d) : Calls Tryd.prog 35 #[.slice A l.length c, .slice B l.length d] w fun e w' => e = .returned (.bool true) ∧ Below w.heap.size w w' := by
  have h1 : redraftlaw03_EqRuns.f (l.length + 1) l l = some true := by
    unfold redraftlaw03_EqRuns.f
    rw [if_pos rfl]
    exact eqRuns_l0 hl l.length 0 (by omega)
  exact (redraftlaw03_EqRuns.calls _ A c l B d l true w hA hc hB hd h1).mono fun e w' ⟨he, hd⟩ => ⟨he, hd.below⟩
theorem sRuns_len (l : List (List Int × Int)) : (sRuns l).length = l.length := by simp [sRuns]
theorem eqRuns_c {l : List (List Int × Int)} (hl : l.length ≤ 1048576) {w : World} {A B : Option Addr} {c d : Nat} (hA : Kd.C k58 w A l.length (sRuns l)) (hc : l.length ≤ c) (hB : Kd.C k58 w B l.length (sRuns l)) (hd : l.length ≤ d) : Calls Tryd.prog 35 #[.slice A l.length c, .slice B l.length d] w fun e w' => e = .returned (.bool true) ∧ Below w.heap.size w w' := by
  have h := eqRuns_calls (l := sRuns l) (by rw [sRuns_len]; exact hl) (w := w) (A := A) (B := B) (c := c) (d := d) (by rw [sRuns_len]; exact hA) (by rw [sRuns_len]; exact hc) (by rw [sRuns_len]; exact hB) (by rw [sRuns_len]; exact hd)
  rwa [sRuns_len] at h
theorem rope_runs_is {W : World} {b : Nat} {cs : List (Int × Int)} {L : List (List Int × Int)} (h : RopeHas W b cs) (hsz : cs.length ≤ 1048576) (hN : ∀ c ∈ cs, Rn c.1) (hL : Few L) (hc : rcells L = cs) : Calls Tryd.prog 23 #[.pointer (some ⟨b, 0, none⟩)] W fun e w' => ∃ A c, e = .returned (.slice A L.length c) ∧ Kd.C k58 w' A L.length (sRuns L) ∧ L.length ≤ c ∧ Below W.heap.size W w' := by
  refine (rope_runs h hsz hN).mono ?_
  rintro e w' ⟨A, c, L', he, hR, hf, hc', hb⟩
  obtain rfl := few_uniq L' L hf hL (by rw [hc', hc])
  have h1 := (Kd.R_reads' hR).2
  rw [sRuns_len] at h1
  exact ⟨A, c, he, h1.2, h1.1, hb⟩
section
variable {S : Nat → Prop} {W W' : World} {A : Option Addr} {c : Nat} {l : List (Nat × Nat)}
end
section
variable {w W W' : World} {b : Nat} {A A' : Option Addr} {c c' : Nat} {cs cs' cs'' : List (Int × Int)} {l : List (Nat × Nat)}
end
end Go.Proofs.YteeigokkafcaaaaDoorRope
end
section
namespace Go.Proofs.YteeigokkafcaaaaDoorRope
open Go.RowKit Go.Proofs.YteeigokkafcaaaaDoorW.PrintWords Go.Proofs.YteeigokkafcaaaaDoorW.PrintMore Go.Proofs.YteeigokkafcaaaaDoor.Pr
set_option linter.unusedSimpArgs false
set_option linter.unusedVariables false
def k44 : Kd (Int × Int × Int × Int) := Kd.iso (Kd.pair (Kd.int .i64) (Kd.pair (Kd.int .i64) (Kd.pair (Kd.int .i64) (Kd.int .i64)))) (fun x : Int × Int × Int × Int => x)
theorem at_T44 {w : World} {A : Option Addr} {ps : List (Int × Int × Int × Int)} (h : Kd.C k44 w A ps.length ps) {k : Nat} (hk : k < ps.length) : ∃ ad, A = some ad ∧ w.cell? (ad.add (k * 4)) = some (.int .i64 ps[k].1) ∧ w.cell? ⟨(ad.add (k * 4)).block, (ad.add (k * 4)).off + 1, none⟩ = some (.int .i64 ps[k].2.1) ∧ w.cell? ⟨(ad.add (k * 4)).block, (ad.add (k * 4)).off + 2, none⟩ = some (.int .i64 ps[k].2.2.1) ∧ w.cell? ⟨(ad.add (k * 4)).block, (ad.add (k * 4)).off + 3, none⟩ = some (.int .i64 ps[k].2.2.2) := by
  obtain ⟨ad, c, e, hl, hK, hc⟩ := Kd.C_get h (0, 0, 0, 0) (k : Int) (by omega) (by omega)
  have hx : ps.getD (k : Int).toNat (0, 0, 0, 0) = ps[k] := by simp [hk]
  rw [hx] at hK
  obtain ⟨c0, c1, rfl, h0, c2, c3, rfl, h1, c4, c5, rfl, h2, h3⟩ := hK
  have h0' : c0 = [.int .i64 ps[k].1] := h0
  have h1' : c2 = [.int .i64 ps[k].2.1] := h1
  have h2' : c4 = [.int .i64 ps[k].2.2.1] := h2
  have h3' : c5 = [.int .i64 ps[k].2.2.2] := h3
  subst h0' h1' h2' h3'
  have hs : k44.sz = 4 := rfl
  refine ⟨ad, e, ?_, ?_, ?_, ?_⟩
  · have := hc 0 _ rfl
    rw [hs] at this
    simpa using this
  · have := hc 1 _ rfl
    rw [hs, Int.toNat_natCast, add_field _ _ _ (by decide)] at this
    exact this
  · have := hc 2 _ rfl
    rw [hs, Int.toNat_natCast, add_field _ _ _ (by decide)] at this
    exact this
  · have := hc 3 _ rfl
    rw [hs, Int.toNat_natCast, add_field _ _ _ (by decide)] at this
    exact this
theorem runsG_hid : ∀ (ps : List (Int × Int)) (i : Nat) (prev : Option Int), ∀ x ∈ runsG i prev ps, 0 ≤ x.2 ∧ x.2 ≤ 2
  | [], _, _, x, hx => by cases hx
  | p :: ps, i, prev, x, hx => by
    rcases List.mem_cons.1 hx with rfl | hx
    · have := hidOf_rng prev p.2
      exact ⟨this.1, by have := this.2; show hidOf prev p.2 ≤ _; omega⟩
    · exact runsG_hid ps _ _ x hx
theorem rcells_ok (ps : List (Int × Int)) : RowOk 2 (rcells (runsL ps)) := by
  refine ⟨rcells_rn ps, fun c hc => ?_⟩
  unfold rcells at hc
  obtain ⟨x, hx, hc⟩ := List.mem_flatMap.1 hc
  obtain ⟨r, hr, rfl⟩ := List.mem_map.1 hc
  exact runsG_hid _ _ _ x hx
end Go.Proofs.YteeigokkafcaaaaDoorRope
end
section
namespace Go.Proofs.YteeigokkafcaaaaDoorRope
open Go.RowKit Go.Proofs.YteeigokkafcaaaaDoorW.PrintWords Go.Proofs.YteeigokkafcaaaaDoorW.PrintMore Go.Proofs.YteeigokkafcaaaaDoor.Pr
set_option linter.unusedSimpArgs false
set_option linter.unusedVariables false
theorem Few.len {L : List (List Int × Int)} (h : Few L) : L.length ≤ (rcells L).length := by
  have h1 : ∀ (l : List (List Int × Int)), (∀ x ∈ l, x.1 ≠ []) → l.length ≤ (rcells l).length := by
    intro l
    induction l with
    | nil => intro _; simp
    | cons x t ih =>
      intro hx
      have := ih (fun y hy => hx y (List.mem_cons_of_mem _ hy))
      have h0 := List.length_pos_iff.2 (hx x (by simp))
      rw [rcells_cons, List.length_append, List.length_map, List.length_cons]
      omega
  exact h1 _ h.one
theorem RowOk.up {H H' : Int} {cs : List (Int × Int)} (h : RowOk H cs) (hh : H ≤ H') : RowOk H' cs := ⟨h.rn, fun c hc => by have := h.h c hc; omega⟩
section
variable {w W W' : World} {r c d : Nat} {A1 A2 A3 A' : Option Addr} {c1 c2 c3 c' : Nat} {m h m' s' : List (Int × Int)}
end
end Go.Proofs.YteeigokkafcaaaaDoorRope
end
section
namespace Go.Proofs.YteeigokkafcaaaaDoorRope
open Go.RowKit Go.Proofs.YteeigokkafcaaaaDoorW.PrintWords Go.Proofs.YteeigokkafcaaaaDoorW.PrintMore Go.Proofs.YteeigokkafcaaaaDoor.Pr
set_option linter.unusedSimpArgs false
set_option linter.unusedVariables false
def LetsRow (cs : List (Int × Int)) : Prop := ∀ c ∈ cs, Let c.1
theorem LetsRow.ins {cs : List (Int × Int)} {at_ : Nat} {l : List Int} {hd : Int} (h : LetsRow cs) (hl : Lets l) : LetsRow (insC cs at_ l hd) := by
  intro c hm
  rw [insC, List.mem_append, List.mem_append] at hm
  rcases hm with (hm | hm) | hm
  · exact h _ (List.mem_of_mem_take hm)
  · obtain ⟨r, hr, rfl⟩ := List.mem_map.1 hm; exact hl r hr
  · exact h _ (List.mem_of_mem_drop hm)
theorem LetsRow.bump {cs : List (Int × Int)} {l : List (Nat × Nat)} {b : Int} (h : LetsRow cs) (hN : Norm l cs.length) : LetsRow (bumpC cs l b) := by
  have hm := bumpC_mem (b := b) hN l.length (Nat.le_refl _)
  rw [List.take_length] at hm
  intro c hc
  rcases hm c hc with h1 | ⟨r, hr, d, hd, rfl⟩
  · exact h _ h1
  · exact h d (List.mem_of_mem_take (List.mem_of_mem_drop hd))
theorem LetsRow.act {cs : List (Int × Int)} (h : LetsRow cs) (hl : cs.length ≤ 32768) (kd ka kb kn : Int) : LetsRow (actC cs kd ka kb kn) := by
  unfold actC
  split
  · exact h.ins (wordsL_lets _ _)
  · split
    · obtain ⟨_, _, hN, _⟩ := choL_is cs hl ka kb false
      exact h.bump hN
    · obtain ⟨_, _, hN, _⟩ := choL_is cs hl ka kb true
      exact h.bump hN
theorem rcells_lets {l : List (List Int × Int)} (h : GoodRuns l) : LetsRow (rcells l) := by
  intro c hc
  unfold rcells at hc
  obtain ⟨x, hx, hc⟩ := List.mem_flatMap.1 hc
  obtain ⟨r, hr, rfl⟩ := List.mem_map.1 hc
  exact (h.one x hx).2.1 r hr
theorem few_good {L : List (List Int × Int)} {cs : List (Int × Int)} {H : Int} (hf : Few L) (hc : rcells L = cs) (hk : RowOk H cs) (hH : H ≤ 1048576) (hl : LetsRow cs) : GoodRuns L := by
  have hmem : ∀ x ∈ L, ∀ r ∈ x.1, (r, x.2) ∈ cs := by
    intro x hx r hr
    rw [← hc]
    exact List.mem_flatMap.2 ⟨x, hx, List.mem_map.2 ⟨r, hr, rfl⟩⟩
  refine ⟨fun x hx => ⟨hf.one x hx, fun r hr => hl _ (hmem x hx r hr), ?_⟩, hf.two⟩
  obtain ⟨r, hr⟩ := List.exists_mem_of_ne_nil _ (hf.one x hx)
  have := hk.h _ (hmem x hx r hr)
  dsimp only at this
  omega
theorem Stand.sta {w W : World} {b : Nat} {A : Option Addr} {c : Nat} {cs cs' : List (Int × Int)} (S : Stand w W b A c cs cs') : Sta W W b A c cs cs' := ⟨grownBy_refl _ _, S.bars, S.row, S.rope, S.nz⟩
theorem Stand.act {w W W' : World} {b : Nat} {A A' : Option Addr} {c c' : Nat} {cs cs' ds ds' : List (Int × Int)} (S : Stand w W b A c cs cs') (T : Sta W W' b A' c' ds ds') : Stand w W' b A' c' ds ds' :=
  ⟨below_grown S.bel T.gr S.lb S.bel.size, T.bars, T.row, T.rope, S.lb, S.nz⟩
set_option maxRecDepth 100000 in
set_option maxHeartbeats 64000000 in
theorem runsBack_calls {ps : List (Int × Int)} {sc : List (Int × Int × Int × Int)} {w : World} {A B : Option Addr} {c d : Nat} (hA : Kd.C k97 w A ps.length ps) (hc : ps.length ≤ c) (hm : ps.length ≤ 140737488355328) (hSc : Kd.C k44 w B sc.length sc) (hsm : sc.length ≤ 140737488355328) (hw : BarsAt w) :
    Calls Tryd.prog 7 #[.slice A ps.length c, .slice B sc.length d] w fun e w' => e = .returned (.bool true) ∧ Below w.heap.size w w' := by
  have hok := rcells_ok ps
  have hcl := runsL_cells ps
  have hll := runsL_len ps
  have hlt0 := rcells_lets (runsL_good ps)
  have hfew := (runsL_good ps).few
  have hruns := fun (W : World) (h : Kd.C k97 W A ps.length ps) => runs_c h hc hm
  have hrow := fun (W : World) (A : Option Addr) (c : Nat) (h : Kd.C k58 W A (runsL ps).length (sRuns (runsL ps))) => row_c (c := c) h
  have hfrom := fun (W : World) (A : Option Addr) (c : Nat) (hw : BarsAt W) (h : Kd.C k58 W A (runsL ps).length (sRuns (runsL ps))) (hc : (runsL ps).length ≤ c) => from_c hw h hc
  obtain ⟨cs, hcs⟩ : ∃ cs, cs = rcells (runsL ps) := ⟨_, rfl⟩
  rw [← hcs] at hok hcl hrow hfrom hlt0
  obtain ⟨l, hl⟩ : ∃ l, l = runsL ps := ⟨_, rfl⟩
  rw [← hl] at hruns hrow hfrom hcs hll hfew
  have HR := Lib.hid hruns
  have HW := Lib.hid hrow
  have HF := Lib.hid hfrom
  have HOK := Lib.hid hok
  have HCL := Lib.hid hcl
  have HLT0 := Lib.hid hlt0
  have HFW := Lib.hid hfew
  have HCS := Lib.hid hcs.symm
  have HLL0 := Lib.hid (show l.length ≤ 1048576 by omega)
  have sb : (sc.length : Int) ≤ 140737488355328 := by omega
  clear hruns hrow hfrom hl hcs hc hm hok hcl hsm hll hlt0 hfew
  go_enter Tryd.func7, Tryd.ntmps7
  go_wp2_with (first
    | (go_at_call 15; refine (HR.out w hA).mono ?_; rintro e w1 ⟨A1, c1, rfl, hC1, hc1, hb1⟩)
    | (go_at_call 16; refine (HW.out w1 A1 c1 hC1).mono ?_; clear HW; rintro e w2 ⟨A2, c2, rfl, hR2, hb2⟩)
    | (go_at_call 18; refine (HF.out w2 A1 c1 ((hw.below hb1).below hb2) (Kd.C_below hC1 hb2) hc1).mono ?_; clear HF; rintro e w3 ⟨b, rfl, hlb, hnz, hro, hb3⟩; have S3 : Stand w1 w3 b A2 c2 cs cs := ⟨hb2.trans (hb3.mono hb2.size), ((hw.below hb1).below hb2).below hb3, (hR2.below hb3).less (fun k hk => by rw [hk]; exact hlb), hro, Nat.le_trans hb2.size hlb, hnz⟩)
    | (go_at_call 23; refine (rope_runs_is S3.rope (by have := HCL.out; omega) HOK.out.rn HFW.out HCS.out).mono ?_; rintro e w4 ⟨A4, c4, rfl, h4C, h4c, hb4⟩; have S4 := S3.step hb4; clear S3)
    | (go_at_call 35; refine (eqRuns_c HLL0.out h4C h4c (Kd.C_below hC1 S4.bel) hc1).mono ?_; rintro e w5 ⟨rfl, hb5⟩; have S5 := S4.step hb5; clear S4 h4C h4c hb4 hb5))
  have hSc1 := Kd.C_below hSc hb1
  clear hb2 hR2 hb3 hro hlb hnz hA HR hSc
  go_loopw [6, 9, 10] (fun v6 v9 v10 wr => ∃ (i : Nat) (A' : Option Addr) (c' : Nat) (cs' : List (Int × Int)), i ≤ 24 ∧ v6 = .slice A' cs'.length c' ∧ v9 = .bool true ∧ v10 = .int .i64 (i : Int) ∧ Stand w1 wr b A' c' cs' cs' ∧ RowOk (2 + (i : Int)) cs' ∧ LetsRow cs' ∧ cs'.length ≤ 1152 + 48 * i) (fun _ _ v10 _ => 24 - (intOf v10).toNat)
  case atStart => exact ⟨0, A2, c2, cs, Nat.zero_le _, rfl, rfl, rfl, S5, HOK.out, HLT0.out, HCL.out⟩
  case round =>
    obtain ⟨i, A', c', cs', hi2, rfl, rfl, rfl, Sr, hok, hlt, hln⟩ := hrel
    have ib : (i : Int) ≤ 24 := by omega
    have HOKi := Lib.hid hok
    have HLN := Lib.hid hln
    have HLT := Lib.hid hlt
    have HI := Lib.hid hi2
    clear hok hln hlt S5 HOK HCL HLT0
    by_cases h1 : i < sc.length
    · have d1 : decide (i < sc.length) = true := decide_eq_true h1
      by_cases h2 : i < 24
      · have d2 : decide ((i : Int) < 24) = true := decide_eq_true (by omega)
        obtain ⟨ad, hAd, x0, x1, x2, x3⟩ := at_T44 (Kd.C_below hSc1 Sr.bel) h1
        subst hAd
        have p0 : (0 ≤ (i : Int)) = True := eq_true (by omega)
        have p1 : ((i : Int) < (sc.length : Int)) = True := eq_true (by omega)
        have HI' := Lib.hid h2
        obtain ⟨⟨k0, k1, k2, k3⟩, hkk⟩ : ∃ x, sc[i] = x := ⟨_, rfl⟩
        rw [hkk] at x0 x1 x2 x3
        dsimp only at x0 x1 x2 x3
        clear hkk hi2
        go_wp2_with (first
          | (go_at_call 27; refine (actsD_calls Sr.sta HOKi.out (by have := HI.out; omega) (by have := HLN.out; have := HI.out; omega) k0 k1 k2 k3).mono ?_; rintro e w5 ⟨A5, c5, rfl, T5, _, hok5, hln5⟩; have S5 := Sr.act T5))
        go_roundw
        case rel => exact ⟨i + 1, A5, c5, _, HI'.out, rfl, rfl, by go_num, S5, hok5.up (by omega), HLT.out.act (by have := HLN.out; have := HI.out; omega) k0 k1 k2 k3, by have := HLN.out; omega⟩
        case measure => have := HI'.out; simp [intOf]; omega
      · have d2 : decide ((i : Int) < 24) = false := decide_eq_false (by omega)
        clear h1 h2 hi2
        have HLN2 : Hid (cs'.length ≤ 2304) := Lib.hid (by have := HLN.out; have := HI.out; omega)
        have HOK2 : Hid (RowOk 26 cs') := Lib.hid (HOKi.out.up (by have := HI.out; omega))
        clear HLN HOKi HI
        go_wp2_with (first
          | (go_at_call 23; refine (rope_runs Sr.rope (by have := HLN2.out; omega) HOK2.out.rn).mono ?_; rintro e w6 ⟨A6, c6, L, rfl, hR6, hfew, hrc, hb6⟩; have S6 := Sr.step hb6; clear Sr; have h6 := (Kd.R_reads' hR6).2; rw [sRuns_len] at h6; obtain ⟨h6c, h6C⟩ := h6; have hLl := hfew.len; rw [hrc] at hLl; have HG := Lib.hid (few_good hfew hrc HOK2.out (by decide) HLT.out); have HLL := Lib.hid hLl; have HFEW := Lib.hid hfew; have HRC := Lib.hid hrc; clear hLl hfew hrc hR6))
        have lb : (L.length : Int) ≤ 2304 := by have := HLL.out; have := HLN2.out; omega
        have HNL := Lib.hid (show L.length ≤ 2304 by omega)
        go_loopw [12] (fun v12 wr => ∃ i : Nat, i ≤ L.length ∧ v12 = .int .i64 (i : Int) ∧ Below w6.heap.size w6 wr) (fun v12 _ => L.length - (intOf v12).toNat)
        case atStart => exact ⟨0, Nat.zero_le _, rfl, Below.refl _ _⟩
        case round =>
          obtain ⟨i2, hi2, rfl, hB7⟩ := hrel
          by_cases hlt : i2 < L.length
          · obtain ⟨h1, h2, h3, h4⟩ := HG.out.one _ (List.getElem_mem hlt)
            obtain ⟨ad, hAd, x0, x1⟩ := run_cell (Kd.C_below h6C hB7) hlt
            subst hAd
            have e0 := txt_ne h1
            have p2 : (0 ≤ (i2 : Int)) = True := eq_true (by omega)
            have p3 : ((i2 : Int) < (L.length : Int)) = True := eq_true (by omega)
            have dl : decide (i2 < L.length) = true := decide_eq_true hlt
            by_cases hk0 : i2 = 0
            · have d0 : decide (0 < i2) = false := decide_eq_false (by omega)
              clear hk0 h1 h2 h3 h4
              go_wp2
              go_quiet (fail)
              go_wp2
              go_roundw
              case rel => exact ⟨i2 + 1, hlt, by go_num, pw_below_drewN hB7 _⟩
              case measure => simp [intOf]; omega
            · have hkp : 0 < i2 := by omega
              have hl1 : i2 - 1 < L.length := by omega
              obtain ⟨ad', hAd', xx, x3⟩ := run_cell (Kd.C_below h6C hB7) hl1
              clear xx
              injection hAd' with hAd'
              subst hAd'
              have hne : (L[i2].2 == L[i2 - 1].2) = false := by
                have := HG.out.two (i2 - 1) (by omega)
                simp only [show i2 - 1 + 1 = i2 by omega] at this
                exact beq_eq_false_iff_ne.mpr this
              obtain ⟨q, hq⟩ : ∃ q, q = L[i2 - 1].2 := ⟨_, rfl⟩
              rw [← hq] at x3 hne
              clear hq
              have d0 : decide (0 < i2) = true := decide_eq_true hkp
              obtain ⟨j, hj⟩ : ∃ j : Int, (i2 : Int) - 1 = j := ⟨_, rfl⟩
              have wk : IntKind.i64.wrap ((i2 : Int) - 1) = j := ((IntWalk.i64_left _).trans (w64 (by omega) (by omega))).trans hj
              have kn : i2 - 1 = j.toNat := by omega
              rw [kn] at x3
              have p0 : (0 ≤ j) = True := eq_true (by omega)
              have p1 : (j < (L.length : Int)) = True := eq_true (by omega)
              clear hk0 hkp kn hj hl1 h1 h2 h3 h4
              go_wp2
              go_quiet (fail)
              go_wp2
              go_roundw
              case rel => exact ⟨i2 + 1, hlt, by go_num, pw_below_drewN hB7 _⟩
              case measure => simp [intOf]; omega
          · obtain rfl : i2 = L.length := by omega
            have S7 := S6.step hB7
            have h7C := Kd.C_below h6C hB7
            have dl : decide (L.length < L.length) = false := decide_eq_false (Nat.lt_irrefl _)
            clear hlt hi2
            have HCC : Hid (∀ W, Kd.C k58 W A6 L.length (sRuns L) → Calls Tryd.prog 16 #[.slice A6 L.length c6] W fun e w' => ∃ A' c', e = .returned (.slice A' cs'.length c') ∧ Kd.R k36 36 w' W.heap.size (fun k => W.heap.size ≤ k) (.slice A' cs'.length c') (sCells cs') ∧ Below W.heap.size W w') := Lib.hid (fun W h => by
              have h1 := HRC.out
              have := cells_calls (fun x hx => (HG.out.one x hx).2.1) (by rw [h1]; have := HLN2.out; omega) (by have := HNL.out; omega) (c := c6) h
              rwa [h1] at this)
            go_wp2_with (first
              | (go_at_call 16; refine (HCC.out _ h7C).mono ?_; rintro e w8 ⟨A8, c8, rfl, hR8, hb8⟩; have S8 := S7.step hb8; have h8C := Kd.C_below h7C hb8; have hq8 := (Kd.R_reads' hR8).2.2; rw [sCells_len] at hq8; clear S7 h7C))
            have cb : (cs'.length : Int) ≤ 2304 := by have := HLN2.out; omega
            go_loopw [14] (fun v14 wr => ∃ i : Nat, i ≤ cs'.length ∧ v14 = .int .i64 (i : Int) ∧ Below w8.heap.size w8 wr) (fun v14 _ => cs'.length - (intOf v14).toNat)
            case atStart => exact ⟨0, Nat.zero_le _, rfl, Below.refl _ _⟩
            case round =>
              obtain ⟨q, hq, rfl, hB9⟩ := hrel
              have S9 := S8.step hB9
              by_cases hlt : q < cs'.length
              · obtain ⟨ad, hAd, x0, x1⟩ := row_cell S9.row.rd hlt
                obtain ⟨ae, hAe, y0, y1⟩ := row_cell (Kd.C_below hq8 hB9) hlt
                subst hAd
                subst hAe
                have p2 : (0 ≤ (q : Int)) = True := eq_true (by omega)
                have p3 : ((q : Int) < (cs'.length : Int)) = True := eq_true (by omega)
                have dl : decide (q < cs'.length) = true := decide_eq_true hlt
                go_wp2
                go_quiet (fail)
                go_wp2
                go_roundw
                case rel => exact ⟨q + 1, hlt, by go_num, pw_below_drewN hB9 _⟩
                case measure => simp [intOf]; omega
              · obtain rfl : q = cs'.length := by omega
                have dl : decide (cs'.length < cs'.length) = false := decide_eq_false (Nat.lt_irrefl _)
                have h9C := Kd.C_below h8C hB9
                clear hlt hq S8
                go_wp2_with (first
                  | (go_at_call 18; refine (from_yes HG.out (by rw [HRC.out]; have := HLN2.out; omega) (by have := HNL.out; omega) S9.bars h9C h6c).mono ?_; rintro e w10 ⟨b10, t10, rfl, hb10l, hR10, hct10, hb10⟩; have hro10 : RopeHas w10 b10 cs' := ⟨_, t10, hR10, hct10.trans HRC.out⟩; have S10 := S9.step hb10; have h10C := Kd.C_below h9C hb10; clear S9 h9C hR10)
                  | (go_at_call 23; refine (rope_runs_is hro10 (by have := HLN2.out; omega) HOK2.out.rn HFEW.out HRC.out).mono ?_; rintro e w11 ⟨A11, c11, rfl, h11C, h11c, hb11⟩; have S11 := S10.step hb11; have h11D := Kd.C_below h10C hb11; have hro11 := hro10.below hb11; clear S10)
                  | (go_at_call 35; refine (eqRuns_c (by have := HNL.out; omega) h11C h11c h11D h6c).mono ?_; rintro e w12 ⟨rfl, hb12⟩; have S12 := S11.step hb12; have hro12 := hro11.below hb12; clear S11)
                  | (go_at_call 30; refine (rope_text hro12 (by have := HLN2.out; omega) HOK2.out.rn).mono ?_; rintro e w13 ⟨rfl, hb13⟩; have S13 := S12.step hb13; clear S12)
                  | (go_at_call 32; refine (textS_calls (by have := HLN2.out; omega) HOK2.out.rn S13.row.rd).mono ?_; rintro e w14 ⟨rfl, hb14⟩; have S14 := S13.step hb14; clear S13))
                go_ret
                exact ⟨rfl, hb1.trans (S14.bel.mono hb1.size)⟩
    · have d1 : decide (i < sc.length) = false := decide_eq_false h1
      clear h1 hi2
      have HLN2 : Hid (cs'.length ≤ 2304) := Lib.hid (by have := HLN.out; have := HI.out; omega)
      have HOK2 : Hid (RowOk 26 cs') := Lib.hid (HOKi.out.up (by have := HI.out; omega))
      clear HLN HOKi HI
      go_wp2_with (first
        | (go_at_call 23; refine (rope_runs Sr.rope (by have := HLN2.out; omega) HOK2.out.rn).mono ?_; rintro e w6 ⟨A6, c6, L, rfl, hR6, hfew, hrc, hb6⟩; have S6 := Sr.step hb6; clear Sr; have h6 := (Kd.R_reads' hR6).2; rw [sRuns_len] at h6; obtain ⟨h6c, h6C⟩ := h6; have hLl := hfew.len; rw [hrc] at hLl; have HG := Lib.hid (few_good hfew hrc HOK2.out (by decide) HLT.out); have HLL := Lib.hid hLl; have HFEW := Lib.hid hfew; have HRC := Lib.hid hrc; clear hLl hfew hrc hR6))
      have lb : (L.length : Int) ≤ 2304 := by have := HLL.out; have := HLN2.out; omega
      have HNL := Lib.hid (show L.length ≤ 2304 by omega)
      go_loopw [12] (fun v12 wr => ∃ i : Nat, i ≤ L.length ∧ v12 = .int .i64 (i : Int) ∧ Below w6.heap.size w6 wr) (fun v12 _ => L.length - (intOf v12).toNat)
      case atStart => exact ⟨0, Nat.zero_le _, rfl, Below.refl _ _⟩
      case round =>
        obtain ⟨i2, hi2, rfl, hB7⟩ := hrel
        by_cases hlt : i2 < L.length
        · obtain ⟨h1, h2, h3, h4⟩ := HG.out.one _ (List.getElem_mem hlt)
          obtain ⟨ad, hAd, x0, x1⟩ := run_cell (Kd.C_below h6C hB7) hlt
          subst hAd
          have e0 := txt_ne h1
          have p2 : (0 ≤ (i2 : Int)) = True := eq_true (by omega)
          have p3 : ((i2 : Int) < (L.length : Int)) = True := eq_true (by omega)
          have dl : decide (i2 < L.length) = true := decide_eq_true hlt
          by_cases hk0 : i2 = 0
          · have d0 : decide (0 < i2) = false := decide_eq_false (by omega)
            clear hk0 h1 h2 h3 h4
            go_wp2
            go_quiet (fail)
            go_wp2
            go_roundw
            case rel => exact ⟨i2 + 1, hlt, by go_num, pw_below_drewN hB7 _⟩
            case measure => simp [intOf]; omega
          · have hkp : 0 < i2 := by omega
            have hl1 : i2 - 1 < L.length := by omega
            obtain ⟨ad', hAd', xx, x3⟩ := run_cell (Kd.C_below h6C hB7) hl1
            clear xx
            injection hAd' with hAd'
            subst hAd'
            have hne : (L[i2].2 == L[i2 - 1].2) = false := by
              have := HG.out.two (i2 - 1) (by omega)
              simp only [show i2 - 1 + 1 = i2 by omega] at this
              exact beq_eq_false_iff_ne.mpr this
            obtain ⟨q, hq⟩ : ∃ q, q = L[i2 - 1].2 := ⟨_, rfl⟩
            rw [← hq] at x3 hne
            clear hq
            have d0 : decide (0 < i2) = true := decide_eq_true hkp
            obtain ⟨j, hj⟩ : ∃ j : Int, (i2 : Int) - 1 = j := ⟨_, rfl⟩
            have wk : IntKind.i64.wrap ((i2 : Int) - 1) = j := ((IntWalk.i64_left _).trans (w64 (by omega) (by omega))).trans hj
            have kn : i2 - 1 = j.toNat := by omega
            rw [kn] at x3
            have p0 : (0 ≤ j) = True := eq_true (by omega)
            have p1 : (j < (L.length : Int)) = True := eq_true (by omega)
            clear hk0 hkp kn hj hl1 h1 h2 h3 h4
            go_wp2
            go_quiet (fail)
            go_wp2
            go_roundw
            case rel => exact ⟨i2 + 1, hlt, by go_num, pw_below_drewN hB7 _⟩
            case measure => simp [intOf]; omega
        · obtain rfl : i2 = L.length := by omega
          have S7 := S6.step hB7
          have h7C := Kd.C_below h6C hB7
          have dl : decide (L.length < L.length) = false := decide_eq_false (Nat.lt_irrefl _)
          clear hlt hi2
          have HCC : Hid (∀ W, Kd.C k58 W A6 L.length (sRuns L) → Calls Tryd.prog 16 #[.slice A6 L.length c6] W fun e w' => ∃ A' c', e = .returned (.slice A' cs'.length c') ∧ Kd.R k36 36 w' W.heap.size (fun k => W.heap.size ≤ k) (.slice A' cs'.length c') (sCells cs') ∧ Below W.heap.size W w') := Lib.hid (fun W h => by
            have h1 := HRC.out
            have := cells_calls (fun x hx => (HG.out.one x hx).2.1) (by rw [h1]; have := HLN2.out; omega) (by have := HNL.out; omega) (c := c6) h
            rwa [h1] at this)
          go_wp2_with (first
            | (go_at_call 16; refine (HCC.out _ h7C).mono ?_; rintro e w8 ⟨A8, c8, rfl, hR8, hb8⟩; have S8 := S7.step hb8; have h8C := Kd.C_below h7C hb8; have hq8 := (Kd.R_reads' hR8).2.2; rw [sCells_len] at hq8; clear S7 h7C))
          have cb : (cs'.length : Int) ≤ 2304 := by have := HLN2.out; omega
          go_loopw [14] (fun v14 wr => ∃ i : Nat, i ≤ cs'.length ∧ v14 = .int .i64 (i : Int) ∧ Below w8.heap.size w8 wr) (fun v14 _ => cs'.length - (intOf v14).toNat)
          case atStart => exact ⟨0, Nat.zero_le _, rfl, Below.refl _ _⟩
          case round =>
            obtain ⟨q, hq, rfl, hB9⟩ := hrel
            have S9 := S8.step hB9
            by_cases hlt : q < cs'.length
            · obtain ⟨ad, hAd, x0, x1⟩ := row_cell S9.row.rd hlt
              obtain ⟨ae, hAe, y0, y1⟩ := row_cell (Kd.C_below hq8 hB9) hlt
              subst hAd
              subst hAe
              have p2 : (0 ≤ (q : Int)) = True := eq_true (by omega)
              have p3 : ((q : Int) < (cs'.length : Int)) = True := eq_true (by omega)
              have dl : decide (q < cs'.length) = true := decide_eq_true hlt
              go_wp2
              go_quiet (fail)
              go_wp2
              go_roundw
              case rel => exact ⟨q + 1, hlt, by go_num, pw_below_drewN hB9 _⟩
              case measure => simp [intOf]; omega
            · obtain rfl : q = cs'.length := by omega
              have dl : decide (cs'.length < cs'.length) = false := decide_eq_false (Nat.lt_irrefl _)
              have h9C := Kd.C_below h8C hB9
              clear hlt hq S8
              go_wp2_with (first
                | (go_at_call 18; refine (from_yes HG.out (by rw [HRC.out]; have := HLN2.out; omega) (by have := HNL.out; omega) S9.bars h9C h6c).mono ?_; rintro e w10 ⟨b10, t10, rfl, hb10l, hR10, hct10, hb10⟩; have hro10 : RopeHas w10 b10 cs' := ⟨_, t10, hR10, hct10.trans HRC.out⟩; have S10 := S9.step hb10; have h10C := Kd.C_below h9C hb10; clear S9 h9C hR10)
                | (go_at_call 23; refine (rope_runs_is hro10 (by have := HLN2.out; omega) HOK2.out.rn HFEW.out HRC.out).mono ?_; rintro e w11 ⟨A11, c11, rfl, h11C, h11c, hb11⟩; have S11 := S10.step hb11; have h11D := Kd.C_below h10C hb11; have hro11 := hro10.below hb11; clear S10)
                | (go_at_call 35; refine (eqRuns_c (by have := HNL.out; omega) h11C h11c h11D h6c).mono ?_; rintro e w12 ⟨rfl, hb12⟩; have S12 := S11.step hb12; have hro12 := hro11.below hb12; clear S11)
                | (go_at_call 30; refine (rope_text hro12 (by have := HLN2.out; omega) HOK2.out.rn).mono ?_; rintro e w13 ⟨rfl, hb13⟩; have S13 := S12.step hb13; clear S12)
                | (go_at_call 32; refine (textS_calls (by have := HLN2.out; omega) HOK2.out.rn S13.row.rd).mono ?_; rintro e w14 ⟨rfl, hb14⟩; have S14 := S13.step hb14; clear S13))
              go_ret
              exact ⟨rfl, hb1.trans (S14.bel.mono hb1.size)⟩
end Go.Proofs.YteeigokkafcaaaaDoorRope
end
