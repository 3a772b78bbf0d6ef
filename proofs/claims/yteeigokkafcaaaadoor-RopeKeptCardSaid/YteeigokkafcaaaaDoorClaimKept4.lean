/- Proved: behind every change of a script a rope holds no fewer pieces than runs and no more than those and a sixteenth of the cells, and its levels are within their bounds; for all inputs. -/
import Derived.Test.YteeigokkafcaaaaDoorClaimKept3
section
namespace Go.Proofs.YteeigokkafcaaaaDoorRope.P2
open Go.RowKit Go.Proofs.YteeigokkafcaaaaDoorW.PrintWords Go.Proofs.YteeigokkafcaaaaDoorW.PrintMore Go.Proofs.YteeigokkafcaaaaDoorRope Go.Proofs.YteeigokkafcaaaaDoor.Pr
set_option linter.unusedSimpArgs false
set_option linter.unusedVariables false
attribute [local go_sem] run_field2 run_field0
theorem pop_cells {t l : Tree} {p : Pc} (h : t.pcs ++ [(p.rs, p.hid)] = l.pcs) : t.cells ++ p.cells = l.cells := by
  rw [Tree.cells_pcs l, ← h, rcells_append, ← Tree.cells_pcs]
  simp [rcells, Pc.cells]
theorem popF_cells {t l : Tree} {p : Pc} (h : [(p.rs, p.hid)] ++ t.pcs = l.pcs) : p.cells ++ t.cells = l.cells := by
  rw [Tree.cells_pcs l, ← h, rcells_append, ← Tree.cells_pcs]
  simp [rcells, Pc.cells]
theorem ppcs_ppl (qs : List Pc) : ppcs qs = ppl (qs.map Pc.s) := by simp [ppcs, ppl]
def Mended (K : Nat → Prop) (w0 : World) (ts : List (Tree × Value)) (ps : List Pc) (bs : List (Nat × Obj)) (lc rc : Pcl) (e : Ending) (w' : World) : Prop := ∃ t p, e = .returned (.pointer p) ∧ Env K w0 w' ((t, .pointer p) :: ts) ps bs ∧ t.cells = rcells lc ++ rcells rc ∧ ∃ lr rr s1 s2, t.pcs = lr ++ ppl (ev (s1 ++ s2)) ++ rr ∧ lc = lr ++ ppl s1 ∧ rc = ppl s2 ++ rr ∧ (s1.length = 2 ∨ lr = []) ∧ (s2.length = 2 ∨ rr = []) ∧ (∀ x ∈ s1 ++ s2, x.f0 ≠ [])
def MenL (K0 : Nat → Prop) (w0 W : World) (ts : List (Tree × Value)) (ps : List Pc) (bs : List (Nat × Obj)) (L : List (Int × Int)) (LP : Pcl) (v0 v5 v14 : Value) (wx : World) : Prop :=
  ∃ (j : Nat) (K : Nat → Prop) (l : Tree) (sq : List S113) (q A : Option Addr) (c : Nat), v14 = .int .i64 (j : Int) ∧ j ≤ 2 ∧ v0 = .pointer q ∧ v5 = .slice A sq.length c ∧ Beside K0 K w0 W wx ((l, .pointer q) :: ts) ps bs A c sq ∧ l.cells ++ scells sq = L ∧ sq.length ≤ j ∧ l.pcs ++ ppl sq = LP ∧ (sq.length = j ∨ l = .nil)
theorem MenL.mk {K0 K : Nat → Prop} {w0 W wx : World} {ts : List (Tree × Value)} {ps : List Pc} {bs : List (Nat × Obj)} {L : List (Int × Int)} {LP : Pcl} {v0 v5 : Value} {x14 : Int} (j : Nat) (l : Tree) (sq : List S113) (h14 : x14 = (j : Int)) (hj : j ≤ 2) (hs : ∀ k, K k → K0 k) (hE : Env K w0 wx ((l, v0) :: ts) ps bs) (hN : Kd.N k113 113 wx W.heap.size (fun _ => True) v5 sq) (ho : ∀ b, v5.ownBlock = some b → ¬ K b) (hok : ∀ x ∈ sq, OkPc x) (hB : Below W.heap.size W wx) (hbs : ∀ x ∈ bs, x.1 < W.heap.size) (hws : w0.heap.size ≤ W.heap.size) (hc : l.cells ++ scells sq = L) (hl : sq.length ≤ j) (hp : l.pcs ++ ppl sq = LP) (h2 : sq.length = j ∨ l = .nil) : MenL K0 w0 W ts ps bs L LP v0 v5 (.int .i64 x14) wx := by
  obtain ⟨q, rfl⟩ := (hE.t _ List.mem_cons_self).rep.ptr
  obtain ⟨A, c, rfl⟩ := Kd.N_slice hN
  exact ⟨j, K, l, sq, q, A, c, by rw [h14], hj, rfl, rfl, ⟨hs, hE, hN, ho, hok, hB, hbs, hws⟩, hc, hl, hp, h2⟩
def MenR (K0 : Nat → Prop) (w0 W : World) (ts : List (Tree × Value)) (ps : List Pc) (bs : List (Nat × Obj)) (C : List (Int × Int)) (RP : Pcl) (s1 : List S113) (l : Tree) (vl v1 v5 v29 : Value) (wx : World) : Prop :=
  ∃ (j : Nat) (K : Nat → Prop) (r : Tree) (sq : List S113) (q A : Option Addr) (c : Nat), v29 = .int .i64 (j : Int) ∧ j ≤ 2 ∧ v1 = .pointer q ∧ v5 = .slice A sq.length c ∧ Beside K0 K w0 W wx ((r, .pointer q) :: (l, vl) :: ts) ps bs A c sq ∧ l.cells ++ scells sq ++ r.cells = C ∧ sq.length ≤ 2 + j ∧ ∃ s2, sq = s1 ++ s2 ∧ ppl s2 ++ r.pcs = RP ∧ (s2.length = j ∨ r = .nil)
theorem MenR.mk {K0 K : Nat → Prop} {w0 W wx : World} {ts : List (Tree × Value)} {ps : List Pc} {bs : List (Nat × Obj)} {C : List (Int × Int)} {RP : Pcl} {s1 : List S113} {l : Tree} {vl v1 v5 : Value} {x29 : Int} (j : Nat) (r : Tree) (sq : List S113) (h14 : x29 = (j : Int)) (hj : j ≤ 2) (hs : ∀ k, K k → K0 k) (hE : Env K w0 wx ((r, v1) :: (l, vl) :: ts) ps bs) (hN : Kd.N k113 113 wx W.heap.size (fun _ => True) v5 sq) (ho : ∀ b, v5.ownBlock = some b → ¬ K b) (hok : ∀ x ∈ sq, OkPc x) (hB : Below W.heap.size W wx) (hbs : ∀ x ∈ bs, x.1 < W.heap.size) (hws : w0.heap.size ≤ W.heap.size) (hc : l.cells ++ scells sq ++ r.cells = C) (hl : sq.length ≤ 2 + j) (hp : ∃ s2, sq = s1 ++ s2 ∧ ppl s2 ++ r.pcs = RP ∧ (s2.length = j ∨ r = .nil)) : MenR K0 w0 W ts ps bs C RP s1 l vl v1 v5 (.int .i64 x29) wx := by
  obtain ⟨q, rfl⟩ := (hE.t _ List.mem_cons_self).rep.ptr
  obtain ⟨A, c, rfl⟩ := Kd.N_slice hN
  exact ⟨j, K, r, sq, q, A, c, by rw [h14], hj, rfl, rfl, ⟨hs, hE, hN, ho, hok, hB, hbs, hws⟩, hc, hl, hp⟩
def MenJ (K : Nat → Prop) (w0 w7 : World) (ts : List (Tree × Value)) (ps : List Pc) (bs : List (Nat × Obj)) (lc : List (Int × Int)) (lp : Pcl) (qs : List Pc) (r : Tree) (vr v0 v47 : Value) (wx : World) : Prop :=
  ∃ (i : Nat) (l : Tree) (q : Option Addr), v47 = .int .i64 (i : Int) ∧ i ≤ qs.length ∧ v0 = .pointer q ∧ Env K w0 wx ((l, .pointer q) :: (r, vr) :: ts) (qs ++ ps) bs ∧ l.cells = lc ++ pcells (qs.take i) ∧ Below w7.heap.size w7 wx ∧ l.pcs = lp ++ ppcs (qs.take i)
theorem MenJ.mk {K : Nat → Prop} {w0 w7 wx : World} {ts : List (Tree × Value)} {ps : List Pc} {bs : List (Nat × Obj)} {lc : List (Int × Int)} {lp : Pcl} {qs : List Pc} {r : Tree} {vr v0 : Value} {x : Int} (i : Nat) (l : Tree) (hx : x = (i : Int)) (hi : i ≤ qs.length) (hE : Env K w0 wx ((l, v0) :: (r, vr) :: ts) (qs ++ ps) bs) (hc : l.cells = lc ++ pcells (qs.take i)) (hB : Below w7.heap.size w7 wx) (hp : l.pcs = lp ++ ppcs (qs.take i)) : MenJ K w0 w7 ts ps bs lc lp qs r vr v0 (.int .i64 x) wx := by
  obtain ⟨q, rfl⟩ := (hE.t _ List.mem_cons_self).rep.ptr
  exact ⟨i, l, q, by rw [hx], hi, rfl, hE, hc, hB, hp⟩
section
variable {K0 K : Nat → Prop} {w0 W wx w1 w8 : World} {ts : List (Tree × Value)} {ps : List Pc} {bs : List (Nat × Obj)} {A : Option Addr} {c : Nat} {sq : List S113} {v8 : Value}
theorem ppcs_take {qs : List Pc} {i : Nat} (hi : i < qs.length) : ppcs (qs.take (i + 1)) = ppcs (qs.take i) ++ [(qs[i].rs, qs[i].hid)] := by
  rw [List.take_succ_eq_append_getElem hi, ppcs, List.map_append]
  rfl
theorem pcells_take {qs : List Pc} {i : Nat} (hi : i < qs.length) : pcells (qs.take (i + 1)) = pcells (qs.take i) ++ qs[i].cells := by
  rw [List.take_succ_eq_append_getElem hi, pcells, List.flatMap_append]
  simp [pcells]
theorem menL_step {l t : Tree} {v : Value} {q : Option Addr} {p : Pc} {j : Nat} {L : List (Int × Int)} {LP : Pcl} (hb : Beside K0 K w0 W wx ((l, .pointer q) :: ts) ps bs A c sq) (hL : l.cells ++ scells sq = L) (hl : sq.length ≤ j) (hj : j < 2) (hLP : l.pcs ++ ppl sq = LP) (hln : sq.length = j)
    (hE1 : Env K w0 w1 ((t, v) :: (l, .pointer q) :: ts) (p :: ps) bs) (hb1 : Below wx.heap.size wx w1) (hpc : t.pcs ++ [(p.rs, p.hid)] = l.pcs)
    (hN8 : Kd.N k113 113 w8 W.heap.size (fun _ => True) v8 ([p.s] ++ sq)) (hB8 : Below W.heap.size W w8) (hg8 : ((w1.alloc p.obj).alloc p.obj).grownBy w8 (some (w1.heap.size + 1)))
    (hat8 : v8.ownBlock = some (w1.heap.size + 1) ∨ ∃ b, v8.ownBlock = some b ∧ ((w1.alloc p.obj).alloc p.obj).heap.size ≤ b) {x : Int} (hx : x = (j : Int) + 1) : MenL K0 w0 W ts ps bs L LP v v8 (.int .i64 x) w8 := by
  have hc := pop_cells hpc
  have z3 : ((w1.alloc p.obj).alloc p.obj).heap.size = w1.heap.size + 1 + 1 := by simp
  have hb3 : Below w1.heap.size w1 ((w1.alloc p.obj).alloc p.obj) := ((Below.refl _ w1).alloc (Nat.le_refl _) _).alloc (by simp) _
  have hE3 : Env (Kg K w1.heap.size ((w1.alloc p.obj).alloc p.obj).heap.size) w0 ((w1.alloc p.obj).alloc p.obj) ((t, v) :: (l, .pointer q) :: ts) (p :: ps) bs := hE1.grown (Go.Proofs.YteeigokkafcaaaaDoorW.PrintWords.grown_of_below hb3 none) (hE1.bel.trans (hb3.mono hE1.bel.size)) (fun b e => by cases e)
  have hw0 := hE3.bel.size
  have hww : W.heap.size ≤ w1.heap.size := Nat.le_trans hb.bel.size hb1.size
  have hnk : ∀ b, some (w1.heap.size + 1) = some b → ¬ Kg K w1.heap.size ((w1.alloc p.obj).alloc p.obj).heap.size b := by
    intro b e hk
    injection e with e
    rcases hk with hk | hk
    · have := hk.2; omega
    · omega
  have hE8 := hE3.grown hg8 (hE3.bel.trans ⟨hg8.os, hg8.tape, hg8.output, hg8.size, fun k hk => hg8.block k (Nat.lt_of_lt_of_le hk hw0) (fun e => by injection e with e; have := hE1.bel.size; omega)⟩) (fun b e => ⟨hnk b e, fun x hx e2 => by injection e with e; have := hb.box x hx; omega⟩)
  refine MenL.mk (j + 1) t ([p.s] ++ sq) (by omega) hj (fun k hk => hb.sub k ?_) (hE8.sub (sub_keep fun y hy => u1 hy) (fun y hy => u1 hy) (fun y hy => hy)) hN8 ?_ ?_ hB8 hb.box hb.ws ?_ (by simp; omega) (by rw [ppl_append, ← hLP, ← hpc]; simp [ppl]) (.inl (by simp; omega))
  · exact Kg.sub hE1.up hb3.size k (Kg.sub hE3.up hg8.size k hk)
  · refine Kg.own (v := .slice (some ⟨w1.heap.size + 1, 0, none⟩) 1 1) (fun b e => hnk b (by simpa [Value.ownBlock] using e)) (by simpa [Value.ownBlock] using hat8) (Kd.N_lt hN8)
  · intro x hx
    rcases List.mem_append.1 hx with hx | hx
    · have : x = p.s := by simpa using hx
      rw [this]; exact Pc.ok (hE1.p _ List.mem_cons_self)
    · exact hb.ok x hx
  · rw [scells_append, scells_pc, ← List.append_assoc, hc, hL]
theorem menR_step {l r t : Tree} {vl v : Value} {q : Option Addr} {p : Pc} {j : Nat} {C : List (Int × Int)} {RP : Pcl} {s1 s2 : List S113} (hb : Beside K0 K w0 W wx ((r, .pointer q) :: (l, vl) :: ts) ps bs A c sq) (hC : l.cells ++ scells sq ++ r.cells = C) (hl : sq.length ≤ 2 + j) (hj : j < 2) (hsq : sq = s1 ++ s2) (hRP : ppl s2 ++ r.pcs = RP) (hln : s2.length = j)
    (hE1 : Env K w0 w1 ((t, v) :: (r, .pointer q) :: (l, vl) :: ts) (p :: ps) bs) (hpc : [(p.rs, p.hid)] ++ t.pcs = r.pcs)
    (hN8 : Kd.N k113 113 w8 W.heap.size (fun _ => True) v8 (sq ++ [p.s])) (hB8 : Below W.heap.size W w8) (hg8 : (w1.alloc p.obj).grownBy w8 (Value.slice A sq.length c).ownBlock)
    (hat8 : v8.ownBlock = (Value.slice A sq.length c).ownBlock ∨ ∃ b, v8.ownBlock = some b ∧ (w1.alloc p.obj).heap.size ≤ b) {x : Int} (hx : x = (j : Int) + 1) : MenR K0 w0 W ts ps bs C RP s1 l vl v v8 (.int .i64 x) w8 := by
  have hc := popF_cells hpc
  have hE3 := hE1.idle p.obj
  have hw0 := hE3.bel.size
  have hrow : ∀ b, (Value.slice A sq.length c).ownBlock = some b → W.heap.size ≤ b := fun b e => Kd.N_base hb.row b e
  have hw0W : w0.heap.size ≤ W.heap.size ∨ True := .inr trivial
  have hE8 := hE3.grown hg8 (hE3.bel.trans ⟨hg8.os, hg8.tape, hg8.output, hg8.size, fun k hk => hg8.block k (Nat.lt_of_lt_of_le hk hw0) (fun e => ?_)⟩) (fun b e => ⟨hb.own b e, fun x hx e2 => by have := hb.box x hx; have := hrow b e; omega⟩)
  · refine MenR.mk (j + 1) t (sq ++ [p.s]) (by omega) hj (fun k hk => hb.sub k ?_) (hE8.sub (sub_keep fun y hy => u1 hy) (fun y hy => u1 hy) (fun y hy => hy)) hN8 ?_ ?_ hB8 hb.box hb.ws ?_ (by simp; omega) ⟨s2 ++ [p.s], by rw [hsq, List.append_assoc], by rw [ppl_append, ← hRP, ← hpc]; simp [ppl], .inl (by simp; omega)⟩
    · exact Kg.sub hE3.up hg8.size k hk
    · exact Kg.own hb.own hat8 (Kd.N_lt hN8)
    · intro x hx
      rcases List.mem_append.1 hx with hx | hx
      · exact hb.ok x hx
      · have : x = p.s := by simpa using hx
        rw [this]; exact Pc.ok (hE1.p _ List.mem_cons_self)
    · rw [scells_append, scells_pc, ← hC, ← hc]
      simp only [List.append_assoc]
  · have h1 := hrow k e.symm
    have h2 := hb.ws
    omega
end
set_option maxRecDepth 100000 in
set_option maxHeartbeats 16000000 in
theorem mend_env {K0 : Nat → Prop} {w0 W : World} {ts : List (Tree × Value)} {ps : List Pc} {bs : List (Nat × Obj)} (h : Env K0 w0 W ts ps bs) {l r : Tree} {vl vr : Value} (hl : (l, vl) ∈ ts) (hr : (r, vr) ∈ ts) (hsz : l.cells.length + r.cells.length ≤ 536870912) :
    Calls Tryd.prog 73 #[vl, vr] W (Mended K0 w0 ts ps bs l.pcs r.pcs) := by
  obtain ⟨ql, rfl⟩ := (h.t _ hl).rep.ptr
  obtain ⟨qr, rfl⟩ := (h.t _ hr).rep.ptr
  have H0 : MenL K0 w0 W ts ps bs l.cells l.pcs (.pointer ql) (.slice none 0 0) (.int .i64 0) W := MenL.mk 0 l [] rfl (by decide) (fun k hk => hk) (h.addT (h.t _ hl)) (Kd.N_nil _ _ _ _ _) (fun b e => by simp [Value.ownBlock] at e) (by simp) (Below.refl _ _) (fun x hx => new_lt (h.b x hx)) h.bel.size (by simp [scells]) (Nat.le_refl _) (by simp [ppl]) (.inl rfl)
  obtain ⟨L, hL⟩ : ∃ L, L = l.cells := ⟨_, rfl⟩
  obtain ⟨R, hR⟩ : ∃ R, R = r.cells := ⟨_, rfl⟩
  obtain ⟨LP, hLP⟩ : ∃ LP, LP = l.pcs := ⟨_, rfl⟩
  obtain ⟨RP, hRP⟩ : ∃ RP, RP = r.pcs := ⟨_, rfl⟩
  have hfc : rcells LP ++ rcells RP = L ++ R := by rw [hLP, hRP, hL, hR, Tree.cells_pcs, Tree.cells_pcs]
  rw [← hL, ← hR] at hsz
  rw [← hLP, ← hRP]
  rw [← hL, ← hLP] at H0
  have HFC := Lib.hid hfc
  have HRP := Lib.hid hRP
  clear hfc hRP hLP
  have HS := Lib.hid hsz
  have HR := Lib.hid hR
  have HL := Lib.hid hL
  clear hsz hL hR
  go_enter Tryd.func73, Tryd.ntmps73
  go_wp2
  go_loopw [0, 5, 14] (fun v0 v5 v14 wx => MenL K0 w0 W ts ps bs L LP v0 v5 v14 wx) (fun _ _ i _ => 2 - (intOf i).toNat)
  case atStart => exact H0
  case round =>
    clear H0
    obtain ⟨j, K, t, sq, q, A, c, rfl, hj, rfl, rfl, hb, hLc, hsl, hlp, hl2⟩ := hrel
    have HLP2 := Lib.hid (And.intro hlp hl2)
    clear hlp hl2
    by_cases hjl : j < 2
    · have t1 : decide ((j : Int) < 2) = true := decide_eq_true (by omega)
      have j1 : (j : Int) < 2 := by omega
      cases t with
      | nil =>
        have hq := (hb.env.t _ List.mem_cons_self).rep.none
        subst hq
        have HLc := Lib.hid hLc
        have HB := Lib.hid hb
        clear hLc hb
        go_wp2
        go_roundw
        case rel => exact MenL.mk (j + 1) .nil sq rfl hjl HB.out.sub HB.out.env HB.out.row HB.out.own HB.out.ok HB.out.bel HB.out.box HB.out.ws HLc.out (by omega) HLP2.out.1 (.inr rfl)
        case measure => simp [intOf]; omega
      | node tl rs hid tr plus =>
        obtain ⟨ad, had⟩ := (hb.env.t _ List.mem_cons_self).rep.some
        subst had
        have hsz1 : (Tree.node tl rs hid tr plus).cells.length ≤ 1073741824 := by
          have h1 := congrArg List.length hLc
          rw [List.length_append] at h1
          have := HS.out
          omega
        have hpop := popLast_env hb.env.rebase List.mem_cons_self hsz1
        have HP := Lib.hid hpop
        have HLc := Lib.hid hLc
        have HB := Lib.hid hb
        have hl32 : Hid ((([⟨[], 0⟩] : List S113).length + sq.length) * 32 ≤ 140737488355328) := Lib.hid (by simp; omega)
        clear hLc hb hpop hsz1
        go_wp2_with (first
          | (go_at_call 103; refine HP.out.mono ?_; rintro e w1 ⟨t', v', p, rfl, hE1, hc1⟩; have HC1 := Lib.hid hc1; clear hc1; have HAP := Lib.hid (menL_app HB.out hE1))
          | ((with_reducible refine gate_builtin (b := .append) (xs := #[.tmp 25, .tmp 26]) rfl ?_); at_builtin; refine Kd.N_append_rows k113 (w0 := W) W.heap.size rfl (.tmp 25) (.tmp 26) 101 113 (.agg #[.slice none 0 0, .int .i64 0]) 32 rfl Tryd.underlying101 info113 rfl (by decide) (by decide) _ [p.s] sq A sq.length c (fun _ => True) (fun k => k < w1.heap.size) rfl rfl HAP.out.1 HAP.out.2.1 HAP.out.2.2.2 (fun _ _ => trivial) HAP.out.2.2.1 HAP.out.2.2.1.size hl32.out ?_; intro v8 w8 hN8 hB8 hg8 hat8))
        have HF := Lib.hid (menL_step (x := (j : Int) + 1) HB.out HLc.out hsl hjl HLP2.out.1 (HLP2.out.2.resolve_right (by simp)) (hE1.onto HB.out.env) hE1.bel HC1.out hN8 hB8 hg8 hat8 rfl)
        clear hN8 hB8 hg8 hat8 HAP hE1
        go_wp2
        go_roundw
        case rel => exact HF.out
        case measure => simp [intOf]; omega
    · have t1 : decide ((j : Int) < 2) = false := decide_eq_false (by omega)
      have hrm := hb.env.t (r, .pointer qr) (u1 hr)
      have H1 : MenR K0 w0 W ts ps bs (L ++ R) RP sq t (.pointer q) (.pointer qr) (.slice A sq.length c) (.int .i64 0) wr := MenR.mk 0 r sq rfl (by decide) hb.sub (hb.env.addT hrm) hb.row hb.own hb.ok hb.bel hb.box hb.ws (by rw [hLc, HR.out]) (by omega) ⟨[], by simp, by simp [ppl, HRP.out], .inl rfl⟩
      have HL3P := Lib.hid (show t.pcs ++ ppl sq = LP ∧ (sq.length = 2 ∨ t.pcs = []) from ⟨HLP2.out.1, HLP2.out.2.imp (fun h => by omega) (fun h => by rw [h]; rfl)⟩)
      clear HLP2
      obtain ⟨s1, hs1⟩ : ∃ s1, s1 = sq := ⟨_, rfl⟩
      rw [← hs1] at HL3P
      rw [show MenR K0 w0 W ts ps bs (L ++ R) RP sq = MenR K0 w0 W ts ps bs (L ++ R) RP s1 by rw [hs1]] at H1
      clear hs1
      clear hb hLc hsl hrm hj hjl
      obtain ⟨n2, hn2⟩ : ∃ n2 : Nat, n2 = sq.length := ⟨_, rfl⟩
      rw [← hn2] at H1 ⊢
      clear hn2
      go_wp2
      go_loopw [1, 5, 29] (fun v1 v5 v29 wx => MenR K0 w0 W ts ps bs (L ++ R) RP s1 t (.pointer q) v1 v5 v29 wx) (fun _ _ i _ => 2 - (intOf i).toNat)
      case atStart => exact H1
      case round =>
        clear H1
        obtain ⟨i, K2, r2, sq2, q2, A2, c2, rfl, hi, rfl, rfl, hb, hC, hsl, s2, hs12, hrp, hr2⟩ := hrel
        have HS2 := Lib.hid (And.intro hs12 (And.intro hrp hr2))
        clear hs12 hrp hr2
        have hlen : t.cells.length + (scells sq2).length + r2.cells.length ≤ 536870912 := by
          have h1 := congrArg List.length hC
          simp only [List.length_append] at h1
          have := HS.out
          omega
        have HLN := Lib.hid hlen
        clear hlen
        by_cases hil : i < 2
        · have t2 : decide ((i : Int) < 2) = true := decide_eq_true (by omega)
          have i1 : (i : Int) < 2 := by omega
          cases r2 with
          | nil =>
            have hq := (hb.env.t _ List.mem_cons_self).rep.none
            subst hq
            have HC := Lib.hid hC
            have HB := Lib.hid hb
            clear hC hb
            go_wp2
            go_roundw
            case rel => exact MenR.mk (i + 1) .nil sq2 rfl hil HB.out.sub HB.out.env HB.out.row HB.out.own HB.out.ok HB.out.bel HB.out.box HB.out.ws HC.out (by omega) ⟨s2, HS2.out.1, HS2.out.2.1, .inr rfl⟩
            case measure => simp [intOf]; omega
          | node tl rs hid tr plus =>
            obtain ⟨ad, had⟩ := (hb.env.t _ List.mem_cons_self).rep.some
            subst had
            have hpop := popFirst_env hb.env.rebase List.mem_cons_self (by have := HLN.out; omega)
            have HP := Lib.hid hpop
            have HC := Lib.hid hC
            have HB := Lib.hid hb
            have hl32 : Hid ((sq2.length + 1) * 32 ≤ 140737488355328) := Lib.hid (by omega)
            clear hC hb hpop
            go_wp2_with (first
              | (go_at_call 104; refine HP.out.mono ?_; rintro e w1 ⟨t', v', p, rfl, hE1, hc1⟩; have HC1 := Lib.hid hc1; clear hc1; have HAP := Lib.hid (menR_app HB.out hE1))
              | ((with_reducible refine gate_builtin (b := .append) (xs := #[.tmp 39, .tmp 41]) rfl ?_); at_builtin; refine Kd.N_append k113 (w0 := W) (W := w1.alloc p.obj) W.heap.size rfl (.tmp 39) (.tmp 41) 101 113 (.agg #[.slice none 0 0, .int .i64 0]) 32 rfl Tryd.underlying101 info113 rfl (by decide) (by decide) _ sq2 p.s [.slice p.A p.rs.length p.c, .int .i64 p.hid] (fun _ => True) K2 rfl (by rw [World.size_alloc]; rfl) HAP.out.1 HAP.out.2.1 (fun _ _ => trivial) HAP.out.2.2.1 HAP.out.2.2.2 HAP.out.2.2.2.size hl32.out ?_; intro v8 w8 hN8 hB8 hg8 hat8))
            have HF := Lib.hid (menR_step (x := (i : Int) + 1) HB.out HC.out hsl hil HS2.out.1 HS2.out.2.1 (HS2.out.2.2.resolve_right (by simp)) (hE1.onto HB.out.env) HC1.out hN8 hB8 hg8 hat8 rfl)
            clear hN8 hB8 hg8 hat8 HAP hE1
            go_wp2
            go_roundw
            case rel => exact HF.out
            case measure => simp [intOf]; omega
        · have t2 : decide ((i : Int) < 2) = false := decide_eq_false (by omega)
          have hrd := Kd.N_reads' hb.row
          have hev := evened_pcs (sq := sq2) (by have := HLN.out; omega) hb.ok hrd.2.2 hrd.2.1
          have HEV := Lib.hid hev
          have HB := Lib.hid hb
          have HC := Lib.hid hC
          have HS3 := Lib.hid (show (s2.length = 2 ∨ r2.pcs = []) from HS2.out.2.2.imp (fun h => by omega) (fun h => by rw [h]; rfl))
          clear hev hrd hb hC hi hil
          go_wp2_with (go_at_call 105; refine HEV.out.mono ?_; rintro e w7 ⟨A7, c7, qs, rfl, hpc, hev, hql, hP, hK, hb7⟩)
          have HEVQ := Lib.hid (show ppcs qs = ppl (ev (s1 ++ s2)) by rw [ppcs_ppl, hev, HS2.out.1])
          have HOK := Lib.hid (show ∀ x ∈ s1 ++ s2, x.f0 ≠ [] from fun x hx => (HB.out.ok x (by rw [HS2.out.1]; exact hx)).1)
          clear hev
          have hE7 : Env K2 w0 w7 ((t, .pointer q) :: (r2, .pointer q2) :: ts) (qs ++ ps) bs := ((HB.out.env.below hb7).addPs (fun p hp => (hK p hp).mono (fun k hk => HB.out.env.up k hk))).sub (fun y hy => by
            rcases List.mem_cons.1 hy with rfl | hy
            · exact m1
            · rcases List.mem_cons.1 hy with rfl | hy
              · exact m0
              · exact u2 hy) (fun y hy => hy) (fun y hy => hy)
          have H2 : MenJ K2 w0 w7 ts ps bs t.cells t.pcs qs r2 (.pointer q2) (.pointer q) (.int .i64 0) w7 := MenJ.mk 0 t rfl (Nat.zero_le _) hE7 (by simp [pcells]) (Below.refl _ _) (by simp [ppcs])
          have hlq : t.cells.length + (pcells qs).length + r2.cells.length ≤ 536870912 := by rw [hpc]; exact HLN.out
          have hqb : (qs.length : Int) ≤ 536870912 := by have := HLN.out; omega
          have HPC := Lib.hid hpc
          have HLQ := Lib.hid hlq
          clear hpc hql hK hlq hE7 HEV
          go_loopw [0, 47] (fun v0 v47 wx => MenJ K2 w0 w7 ts ps bs t.cells t.pcs qs r2 (.pointer q2) v0 v47 wx) (fun _ i _ => qs.length - (intOf i).toNat)
          case atStart => exact H2
          case round =>
            clear H2
            obtain ⟨k, l3, q3, rfl, hk, rfl, hE, hc3, hBx, hp3⟩ := hrel
            have HP3 := Lib.hid hp3
            clear hp3
            by_cases hkl : k < qs.length
            · obtain ⟨g, o, hA7, x0, x1⟩ := (hP.below hBx) k hkl
              have hpt := pcells_take hkl
              have hpp := ppcs_take hkl
              have hmem : qs[k] ∈ qs := List.getElem_mem hkl
              have htl : (pcells (qs.take (k + 1))).length ≤ (pcells qs).length := by
                have := congrArg (fun x => (pcells x).length) (List.take_append_drop (k + 1) qs)
                simp only [pcells, List.flatMap_append, List.length_append] at this
                simp only [pcells]
                omega
              obtain ⟨pq, hpq⟩ : ∃ pq, pq = qs[k] := ⟨_, rfl⟩
              rw [← hpq] at x0 x1 hpt hmem hpp
              have HPP := Lib.hid hpp
              clear hpp
              have hs3 : l3.cells.length + pq.rs.length + (Tree.nil).cells.length ≤ 1073741824 := by
                have h1 : pq.cells.length = pq.rs.length := by simp [Pc.cells]
                rw [hpt, List.length_append, h1] at htl
                rw [hc3, List.length_append, show (Tree.nil).cells.length = 0 from rfl]
                have := HLQ.out
                omega
              have hjo := join_env ((hE.rebase.nilT).idle pq.obj) (l := l3) (r := .nil) (p := pq) m1 m0 (List.mem_append_left _ hmem) hs3
              have kb : (k : Int) ≤ 536870912 := by omega
              have kl : (k : Int) < (qs.length : Int) := by omega
              have HJ := Lib.hid hjo
              have HPT := Lib.hid hpt
              have HC3 := Lib.hid hc3
              have HE := Lib.hid hE
              subst hA7
              clear hjo hpt hmem htl hpq hs3 hc3 hE
              go_wp2_with (go_at_call 102; refine HJ.out.mono ?_; rintro e w8 ⟨t8, v8, rfl, hE8, hc8, _, _⟩)
              have HC8 := Lib.hid hc8
              replace hc8 := of_pcs hc8
              have hF : MenJ K2 w0 w7 ts ps bs t.cells t.pcs qs r2 (.pointer q2) v8 (.int .i64 ((k : Int) + 1)) w8 := MenJ.mk (k + 1) t8 rfl hkl ((hE8.onto HE.out).sub (sub_keep fun y hy => u2 hy) (fun y hy => hy) (fun y hy => hy)) (by rw [hc8, HC3.out, HPT.out]; simp [Tree.cells, List.append_assoc]) (hBx.trans (hE8.bel.mono hBx.size)) (by rw [HC8.out, HP3.out, HPP.out]; simp [Tree.pcs])
              clear hE8 hc8
              go_wp2
              go_roundw
              case rel => exact hF
              case measure => simp [intOf]; omega
            · have hkq : k = qs.length := by omega
              subst hkq
              rw [List.take_length] at hc3
              have HP4 := Lib.hid (show l3.pcs = t.pcs ++ ppl (ev (s1 ++ s2)) by rw [← HEVQ.out, HP3.out, List.take_length])
              clear HP3
              clear hk hkl
              cases r2 with
              | nil =>
                have hq := (hE.t _ m1).rep.none
                subst hq
                have hfin : l3.cells = L ++ R := by rw [hc3, HPC.out, ← HC.out]; simp [Tree.cells]
                have HF := Lib.hid hfin
                clear hc3 hfin
                go_wp2
                go_ret
                exact ⟨l3, q3, rfl, (hE.mono HB.out.sub (fun k hk => HB.out.sub k (hE.up k hk))).sub (sub_keep fun y hy => u1 hy) (fun y hy => List.mem_append_right _ hy) (fun y hy => hy), by rw [HFC.out]; exact HF.out, t.pcs, [], s1, s2, by rw [HP4.out, List.append_nil], HL3P.out.1.symm, by rw [← HS2.out.2.1]; rfl, HL3P.out.2, .inr rfl, HOK.out⟩
              | node tl rs hid tr plus =>
                obtain ⟨ad, had⟩ := (hE.t _ m1).rep.some
                subst had
                have HTR := Lib.hid (show ∀ x, x = (Tree.node tl rs hid tr plus).pcs → RP = ppl s2 ++ x ∧ (s2.length = 2 ∨ x = []) from fun x hx => ⟨by rw [hx, HS2.out.2.1], by rw [hx]; exact HS3.out⟩)
                have hl3 : l3.cells.length + (Tree.node tl rs hid tr plus).cells.length ≤ 536870912 := by rw [hc3, List.length_append]; exact HLQ.out
                have hpop := popFirst_env hE.rebase m1 (by omega)
                have HP := Lib.hid hpop
                have HC3 := Lib.hid hc3
                have HE := Lib.hid hE
                have HL3 := Lib.hid hl3
                clear hpop hc3 hE hl3
                go_wp2_with (first
                  | (go_at_call 104; refine HP.out.mono ?_; rintro e w1 ⟨t', v', p, rfl, hE1, hc1⟩; have HC1P := Lib.hid hc1; have HC1 := Lib.hid (popF_cells hc1); clear hc1)
                  | (go_at_call 102; refine (join_env (hE1.idle p.obj) (l := l3) (r := t') (p := p) (u1 m0) m0 m0 ?_).mono ?_; have h1 := congrArg List.length HC1.out; rw [List.length_append] at h1; have h2 : p.cells.length = p.rs.length := (by simp [Pc.cells]); have := HL3.out; omega; rintro e w8 ⟨t8, v8, rfl, hE8, hc8, _, _⟩))
                have HC8 := Lib.hid hc8
                replace hc8 := of_pcs hc8
                go_ret
                obtain ⟨q8, rfl⟩ := (hE8.t _ m0).rep.ptr
                have hEf := hE8.onto HE.out
                exact ⟨t8, q8, rfl, (hEf.mono HB.out.sub (fun k hk => HB.out.sub k (hEf.up k hk))).sub (sub_keep fun y hy => u3 hy) (fun y hy => u1 (List.mem_append_right _ hy)) (fun y hy => hy), by rw [HFC.out, hc8, HC3.out, List.append_assoc, HC1.out, HPC.out, HC.out], t.pcs, (Tree.node tl rs hid tr plus).pcs, s1, s2, by rw [HC8.out, HP4.out, ← HC1P.out]; simp, HL3P.out.1.symm, (HTR.out _ rfl).1, HL3P.out.2, (HTR.out _ rfl).2, HOK.out⟩
end Go.Proofs.YteeigokkafcaaaaDoorRope.P2
end
section
namespace Go.Proofs.YteeigokkafcaaaaDoorRope.P2
open Go.RowKit Go.Proofs.YteeigokkafcaaaaDoorW.PrintWords Go.Proofs.YteeigokkafcaaaaDoorW.PrintMore Go.Proofs.YteeigokkafcaaaaDoorRope Go.Proofs.YteeigokkafcaaaaDoor.Pr
set_option linter.unusedSimpArgs false
set_option linter.unusedVariables false
theorem rcells_ppcs (qs : List Pc) : rcells (ppcs qs) = pcells qs := by
  induction qs with
  | nil => rfl
  | cons q qs ih =>
    rw [show ppcs (q :: qs) = (q.rs, q.hid) :: ppcs qs from rfl, rcells_cons, ih]
    rfl
theorem rcells_ptake : ∀ (ps : Pcl) (n : Nat), rcells (ptake ps n) = (rcells ps).take n ∧ rcells (pdrop ps n) = (rcells ps).drop n
  | [], n => by simp [ptake, pdrop, rcells]
  | p :: t, n => by
    have ih := rcells_ptake t (n - p.1.length)
    rw [ptake, pdrop]
    by_cases c : n = 0
    · rw [if_pos c, if_pos c, c]; exact ⟨rfl, rfl⟩
    · rw [if_neg c, if_neg c]
      by_cases c2 : n < p.1.length
      · rw [if_pos c2, if_pos c2]
        constructor
        · rw [rcells_cons, rcells_cons, List.take_append_of_le_length (by rw [List.length_map]; omega)]; simp [rcells, List.map_take]
        · rw [rcells_cons, rcells_cons, List.drop_append_of_le_length (by rw [List.length_map]; omega)]; simp [List.map_drop]
      · rw [if_neg c2, if_neg c2]
        have h1 : (p.1.map (fun c => (c, p.2))).take n = p.1.map (fun c => (c, p.2)) := List.take_of_length_le (by rw [List.length_map]; omega)
        have h2 : (p.1.map (fun c => (c, p.2))).drop n = [] := List.drop_of_length_le (by rw [List.length_map]; omega)
        constructor
        · rw [rcells_cons, rcells_cons, ih.1, List.take_append, List.length_map, h1]
        · rw [rcells_cons, ih.2, List.drop_append, List.length_map, h2, List.nil_append]
theorem ptake_cells {a t : Tree} {n : Nat} (h : a.pcs = ptake t.pcs n) : a.cells = t.cells.take n := by rw [Tree.cells_pcs, h, (rcells_ptake _ _).1, ← Tree.cells_pcs]
theorem pdrop_cells {a t : Tree} {n : Nat} (h : a.pcs = pdrop t.pcs n) : a.cells = t.cells.drop n := by rw [Tree.cells_pcs, h, (rcells_ptake _ _).2, ← Tree.cells_pcs]
theorem ppcs_cells {a : Tree} {qs : List Pc} (h : a.pcs = ppcs qs) : a.cells = pcells qs := by rw [Tree.cells_pcs, h, rcells_ppcs]
theorem lift_cells {a t : Tree} {b : Int} (h : a.pcs = t.pcs.map (fun c => (c.1, c.2 + b))) : a.cells = t.cells.map (fun c => (c.1, c.2 + b)) := by rw [Tree.cells_pcs, h, rcells_plus, ← Tree.cells_pcs]
theorem mended_seam {t : Tree} {lc rc : Pcl} {g : Bool} (h : ∃ lr rr s1 s2, t.pcs = lr ++ ppl (ev (s1 ++ s2)) ++ rr ∧ lc = lr ++ ppl s1 ∧ rc = ppl s2 ++ rr ∧ (s1.length = 2 ∨ lr = []) ∧ (s2.length = 2 ∨ rr = []) ∧ (∀ x ∈ s1 ++ s2, x.f0 ≠ [])) (hA : SeamX false true lc) (hB : SeamX true g rc) : SeamX false g t.pcs := by
  obtain ⟨lr, rr, s1, s2, h1, h2, h3, h4, h5, h6⟩ := h
  rw [h2] at hA
  rw [h3] at hB
  rw [h1]
  exact mend_seam hA hB h4 h5 h6
section
attribute [local go_sem ↓] Go.wp_at_zero Go.wp_at_succ
set_option maxRecDepth 100000 in
set_option maxHeartbeats 8000000 in
theorem from_yes {l : List (List Int × Int)} (hg : GoodRuns l) (hlen : (rcells l).length ≤ 1048576) (hll : l.length ≤ 1048576) {w : World} (hw : BarsAt w) {A : Option Addr} {c : Nat} (hA : Kd.C k58 w A l.length (sRuns l)) (hc : l.length ≤ c) :
    Calls Tryd.prog 18 #[.slice A l.length c] w fun e w' => ∃ b t, e = .returned (.tuple #[.pointer (some ⟨b, 0, none⟩), .int .i64 0]) ∧ w.heap.size ≤ b ∧ RopeAt (fun k => w.heap.size ≤ k ∧ k ≠ b) w' b t ∧ t.cells = rcells l ∧ Below w.heap.size w w' ∧ SeamX false false t.pcs := by
  have HLEN := Lib.hid hlen
  clear hlen
  go_enter Tryd.func18, Tryd.ntmps18
  go_wp2
  go_loopw [4, 15] (fun t i wr => ∃ k : Nat, k ≤ l.length ∧ i = .int .i64 (k : Int) ∧ t = .int .i64 ((rcells (l.take k)).length : Int) ∧ Below w.heap.size w wr) (fun _ i _ => l.length - (intOf i).toNat)
  case atStart => exact ⟨0, Nat.zero_le _, rfl, rfl, Below.refl _ _⟩
  case round =>
    obtain ⟨k, hkl, rfl, rfl, hB⟩ := hrel
    by_cases hlt : k < l.length
    · have hle := rcells_le (l := l) k
      have hle1 := rcells_le (l := l) (k + 1)
      have htk := rcells_take hlt
      obtain ⟨h1, h2, h3, h4⟩ := hg.one _ (List.getElem_mem hlt)
      obtain ⟨ad, hAd, x0, x1⟩ := run_cell hA hlt
      subst hAd
      have y0 := pw_cell_below hB x0
      have y1 := pw_cell_below hB x1
      have e0 := txt_ne h1
      have kb : (k : Int) ≤ 1048576 := by omega
      have hb1 : ((rcells (l.take k)).length : Int) + (l[k].1.length : Int) ≤ 1048576 := by have := HLEN.out; omega
      have hb2 : (l[k].1.length : Int) ≤ 1048576 := by have := HLEN.out; omega
      have hn : l[k].1.length ≤ 1073741824 := by omega
      have hwr := hw.below hB
      have HTK := Lib.hid htk
      clear hle hle1 htk x0 x1
      by_cases hk0 : k = 0
      · have d0 : decide (0 < k) = false := decide_eq_false (by omega)
        clear hk0
        go_wp2
        go_quiet (fail)
        go_wp2_with (first
          | (go_at_call 53; refine (check_yes h2 hn (hwr.below (pw_below_drewN (below_alloc (Below.refl _ _) _) _))).mono ?_; rintro e w2 ⟨rfl, hb3⟩; have z0 := bcell hb3 (b := wr.heap.size) (o := 1) (x := .int .i64 l[k].2) (by simp))
          | (go_at_call 54; refine (rope_counter.calls _ _ _ (counter_yes h3 h4)).mono ?_; rintro e w3 ⟨rfl, ⟨nd, rfl⟩⟩))
        have hB2 : Below w.heap.size w (w2.drewN nd) := pw_below_drewN (hB.trans ((pw_below_drewN (below_alloc (Below.refl _ wr) _) _).trans (hb3.mono (by simp)) |>.mono hB.size)) nd
        go_roundw
        case rel => exact ⟨k + 1, hlt, by go_num, by rw [HTK.out]; go_num, hB2⟩
        case measure => simp [intOf]; omega
      · have hkp : 0 < k := by omega
        have hl1 : k - 1 < l.length := by omega
        obtain ⟨ad', hAd', xx, x3⟩ := run_cell hA hl1
        clear xx
        injection hAd' with hAd'
        subst hAd'
        have y3 := pw_cell_below hB x3
        have hne : (l[k].2 == l[k - 1].2) = false := by
          have := hg.two (k - 1) (by omega)
          simp only [show k - 1 + 1 = k by omega] at this
          exact beq_eq_false_iff_ne.mpr this
        obtain ⟨q, hq⟩ : ∃ q, q = l[k - 1].2 := ⟨_, rfl⟩
        rw [← hq] at y3 hne
        clear hq
        have d0 : decide (0 < k) = true := decide_eq_true hkp
        obtain ⟨j, hj⟩ : ∃ j : Int, (k : Int) - 1 = j := ⟨_, rfl⟩
        have wk : IntKind.i64.wrap ((k : Int) - 1) = j := ((IntWalk.i64_left _).trans (w64 (by omega) (by omega))).trans hj
        have kn : k - 1 = j.toNat := by omega
        rw [kn] at y3
        have p0 : (0 ≤ j) = True := eq_true (by omega)
        have p1 : (j < (l.length : Int)) = True := eq_true (by omega)
        clear hk0 x3 hkp kn hj
        clear hl1
        go_wp2
        obtain ⟨W5, hW5⟩ : ∃ W5, wr.alloc (.cells #[.string (txt l[k].1), .int .i64 l[k].2] 58) = W5 := ⟨_, rfl⟩
        have hb5 : Below wr.heap.size wr W5 := by rw [← hW5]; exact below_alloc (Below.refl _ wr) _
        have q0 : W5.cell? ⟨wr.heap.size, 0, none⟩ = some (.string (txt l[k].1)) := by rw [← hW5]; simp
        have q1 : W5.cell? ⟨wr.heap.size, 1, none⟩ = some (.int .i64 l[k].2) := by rw [← hW5]; simp
        have y5 := pw_cell_below hb5 y3
        rw [hW5]
        clear hW5 y3 y0 y1
        go_quiet (fail)
        go_wp2_with (first
          | (go_at_call 53; refine (check_yes h2 hn (hwr.below (pw_below_drewN hb5 _))).mono ?_; rintro e w2 ⟨rfl, hb3⟩; have z0 := pw_cell_below hb3 (show (W5.drewN nq).cell? _ = _ from q1))
          | (go_at_call 54; refine (rope_counter.calls _ _ _ (counter_yes h3 h4)).mono ?_; rintro e w3 ⟨rfl, ⟨nd, rfl⟩⟩))
        have hB2 : Below w.heap.size w (w2.drewN nd) := pw_below_drewN (hB.trans ((pw_below_drewN hb5 _).trans (hb3.mono hb5.size) |>.mono hB.size)) nd
        go_roundw
        case rel => exact ⟨k + 1, hlt, by go_num, by rw [HTK.out]; go_num, hB2⟩
        case measure => simp [intOf]; omega
    · have hkl2 : k = l.length := by omega
      subst hkl2
      rw [List.take_length]
      clear hlt hkl
      have hb4 : ((rcells l).length : Int) ≤ 1048576 := by have := HLEN.out; omega
      have d4 : decide ((1048576 : Int) < ((rcells l).length : Int)) = false := decide_eq_false (by omega)
      go_wp2
      clear d4
      have hsmall : ∀ x ∈ l, x.1.length ≤ 1073741824 := by
        intro x hx
        obtain ⟨k, hk, rfl⟩ := List.getElem_of_mem hx
        have h1 := rcells_take hk
        have h2 := rcells_le (l := l) (k + 1)
        have := HLEN.out
        omega
      go_loopw [10, 62] (fun v i wx => ∃ k : Nat, k ≤ l.length ∧ i = .int .i64 (k : Int) ∧ Kd.N k113 113 wx w.heap.size (fun b => w.heap.size ≤ b) v (cutAll (l.take k)) ∧ Below w.heap.size w wx) (fun _ i _ => l.length - (intOf i).toNat)
      case atStart => exact ⟨0, Nat.zero_le _, rfl, Kd.N_nil _ _ _ _ _, hB⟩
      case round =>
        clear hB
        obtain ⟨k, hkl, rfl, hN, hB⟩ := hrel
        by_cases hlt : k < l.length
        · obtain ⟨h1, h2, h3, h4⟩ := hg.one _ (List.getElem_mem hlt)
          obtain ⟨ad, hAd, x0, x1⟩ := run_cell hA hlt
          subst hAd
          have y0 := pw_cell_below hB x0
          have y1 := pw_cell_below hB x1
          have hn : l[k].1.length ≤ 1073741824 := hsmall _ (List.getElem_mem hlt)
          have kb : (k : Int) ≤ 1048576 := by omega
          have hct := cutAll_take hlt
          have hcl := cutAll_len (l.take k) (fun x hx => hsmall x (List.mem_of_mem_take hx))
          have hcl2 := rcells_le (l := l) k
          have hcs := (cutS_law l[k].1 l[k].2 hn).2.2
          have HCT := Lib.hid hct
          have hbig : ((cutAll (l.take k)).length + (cutS l[k].1 l[k].2).length) * 32 ≤ 140737488355328 := by have := HLEN.out; omega
          have HBIG := Lib.hid hbig
          clear hct hcl hcl2 hcs hbig x0 x1 hb4
          obtain ⟨rs, hrs⟩ : ∃ rs, rs = l[k].1 := ⟨_, rfl⟩
          obtain ⟨hd, hhd⟩ : ∃ hd, hd = l[k].2 := ⟨_, rfl⟩
          rw [← hrs] at y0 h2 hn HBIG HCT
          rw [← hhd] at y1 HBIG HCT
          clear hrs hhd h1 h3 h4
          go_wp2
          obtain ⟨W5, hW5⟩ : ∃ W5, wr.alloc (.cells #[.string (txt rs), .int .i64 hd] 58) = W5 := ⟨_, rfl⟩
          have hb5 : Below wr.heap.size wr W5 := by rw [← hW5]; exact below_alloc (Below.refl _ wr) _
          have q0 : W5.drew.cell? ⟨wr.heap.size, 0, none⟩ = some (.string (txt rs)) := by rw [← hW5]; simp
          have q1 : W5.drew.cell? ⟨wr.heap.size, 1, none⟩ = some (.int .i64 hd) := by rw [← hW5]; simp
          have hN5 := Kd.N_drew (Kd.N_below hN hb5)
          have hgne := Kd.N_ne hN5 (t := 58) (g := wr.heap.size) (cells := #[.string (txt rs), .int .i64 hd]) (by rw [← hW5]; exact heap_new wr _) (by decide)
          have hB5 := below_drew (hB.trans (hb5.mono hB.size))
          rw [hW5]
          obtain ⟨g, hgg⟩ : ∃ g, g = wr.heap.size := ⟨_, rfl⟩
          rw [← hgg] at q0 q1 hgne ⊢
          clear hW5 y0 y1 hN hB hb5 hgg
          go_region_held3 (fun W' => W'.cell? ⟨g, 0, none⟩ = some (.string (txt rs)) ∧ W'.cell? ⟨g, 1, none⟩ = some (.int .i64 hd))
            (first | with_reducible exact ⟨q0, q1⟩ | with_reducible exact ⟨r0, r1⟩ | with_reducible exact ⟨s0, s1⟩ | with_reducible exact ⟨t0, t1⟩ | fail)
            (first
              | (go_at_call 56; refine (runesOf_sl rs h2.rns hn _).mono ?_; rintro e w6 ⟨A6, c6, rfl, hV6, hb6⟩; have r0 := pw_cell_below hb6 q0; have r1 := pw_cell_below hb6 q1)
              | (go_at_call 55; refine (cutUp_sl hV6 hn).mono ?_; rintro e w7 ⟨A7, c7, rfl, hF7, hc7, hb7⟩; have s0 := pw_cell_below hb7 r0; have s1 := pw_cell_below hb7 r1)
              | ((refine Kd.N_append_rows_step k113 (w0 := w) w.heap.size (by rfl) (.tmp 66) (.tmp 72) 101 113 (.agg #[.slice none 0 0, .int .i64 0]) 32 rfl Tryd.underlying101 info113 rfl (by decide) (by decide) _ _ _ A7 _ c7 (fun b => w.heap.size ≤ b) _ rfl rfl (Kd.N_below hN5 (hb6.trans (hb7.mono hb6.size))) hF7 (from_okp hN5 hB5 hb6) (fun k hk => Nat.le_trans (hB5.trans ((hb6.trans (hb7.mono hb6.size)).mono hB5.size)).size hk) (hB5.trans ((hb6.trans (hb7.mono hb6.size)).mono hB5.size)) (hB5.trans ((hb6.trans (hb7.mono hb6.size)).mono hB5.size)).size HBIG.out ?_; intro v8 w8 hN8 hB8 hg8 hat8; have t0 := grown_cell hg8 hgne s0; have t1 := grown_cell hg8 hgne s1))
              | fail)
          have hN9 : Kd.N k113 113 w8 w.heap.size (fun b => w.heap.size ≤ b) v8 (cutAll (l.take (k + 1))) := by rw [HCT.out]; exact hN8
          go_wp2
          go_roundw
          case rel => exact ⟨k + 1, hlt, by go_num, hN9, hB8⟩
          case measure => simp [intOf]; omega
        · have hkl2 : k = l.length := by omega
          subst hkl2
          rw [List.take_length] at hN
          clear hlt hkl hb4
          have hok : ∀ x ∈ cutAll l, OkPc x := by
            intro x hx
            obtain ⟨y, hy, hx⟩ := List.mem_flatMap.1 hx
            obtain ⟨h1, h2, h3, h4⟩ := hg.one y hy
            obtain ⟨_, h5, _⟩ := cutS_law y.1 y.2 (hsmall y hy)
            obtain ⟨h6, _, h7⟩ := h5 x hx
            exact ⟨h6, by omega, by omega⟩
          obtain ⟨A7, c7, qs, hv, hc7, hqs, hP, hK⟩ := pcs_of_N hN hok
          have hE : Env (fun k => w.heap.size ≤ k) w wr [] qs [] := ⟨by simp, hK, by simp, hB, fun k hk => Nat.le_trans hB.size hk⟩
          have hcs : pcells qs = rcells l := by rw [pcells_scells, hqs, cutAll_cells l hsmall]
          have hql : qs.length ≤ (rcells l).length := by
            have := cutAll_len l hsmall
            rw [← hqs, List.length_map] at this
            exact this
          have hs1 : (pcells qs).length ≤ 1073741824 := by rw [hcs]; have := HLEN.out; omega
          have hs2 : qs.length ≤ 1073741824 := by have := HLEN.out; omega
          have HCS := Lib.hid hcs
          subst hv
          have HSE := Lib.hid (show SeamX false false (ppcs qs) by rw [ppcs_ppl, hqs]; exact cutAll_seam l hg.few)
          clear hcs hqs hql hN hok hK hB
          go_wp2_with (go_at_call 57; refine (build_env hE (fun q hq => hq) hP hc7 hs1 hs2).mono ?_; rintro e w3 ⟨t, v, rfl, hE3, hct, _, _⟩; obtain ⟨p, rfl⟩ := (hE3.t _ List.mem_cons_self).rep.ptr)
          go_ret2
          refine ⟨w3.heap.size, t, rfl, hE3.bel.size, ⟨⟨_, heap_new w3 _, ?_⟩, ?_⟩, (ppcs_cells hct).trans HCS.out, below_alloc hE3.bel _, by rw [hct]; exact HSE.out⟩
          · exact (((hE3.t _ List.mem_cons_self).bound).below (below_alloc (Below.refl _ w3) _)).mono (fun k hk => ⟨hk.1, by have := hk.2; omega⟩)
          · simp
end
attribute [local go_sem] run_field2 run_field0
theorem cutUp_pcs {P0 : Nat → Prop} {A : Option Addr} {c : Nat} {l : List Int} {h : Int} {w : World} (hs : Kd.V (Kd.int .i32) 21 w w.heap.size P0 (.slice A l.length c) l) (hL : l.length ≤ 1073741824) (hh : 0 ≤ h ∧ h ≤ 1048577) :
    Calls Tryd.prog 55 #[.slice A l.length c, .int .i64 h] w fun e w' => ∃ A' c' qs, e = .returned (.slice A' qs.length c') ∧ qs.length ≤ c' ∧ pcells qs = l.map (fun c => (c, h)) ∧ qs.map Pc.s = cutS l h ∧ qs.length ≤ l.length ∧ PcsAt w' A' qs ∧ (∀ q ∈ qs, PieceIn (fun k => P0 k ∨ w.heap.size ≤ k) w' q) ∧ Below w.heap.size w w' := by
  obtain ⟨k, hk⟩ := cutUp_is l h hL
  obtain ⟨h1, h2, h3⟩ := cutS_law l h hL
  refine (rope_cutUp.calls k P0 A c l h (cutS l h) w hs hk).mono ?_
  rintro e w' ⟨v, he, hN, hb⟩
  obtain ⟨A', c', qs, rfl, hc, hqs, hP, hK⟩ := pcs_of_N hN (fun x hx => ⟨(h2 x hx).1, by rw [(h2 x hx).2.2]; exact hh.1, by rw [(h2 x hx).2.2]; exact hh.2⟩)
  refine ⟨A', c', qs, he, hc, by rw [pcells_scells, hqs, h1], hqs, ?_, hP, hK, hb⟩
  rw [← hqs, List.length_map] at h3
  exact h3
set_option maxRecDepth 100000 in
set_option maxHeartbeats 16000000 in
theorem insert_yes {K : Nat → Prop} {w : World} {b : Nat} {t : Tree} (h : RopeAt K w b t) (hw : BarsAt w) {at_ : Nat} {l : List Int} {hd : Int} (ha : at_ ≤ t.cells.length) (hl : Lets l) (hne : l ≠ []) (hh : 0 ≤ hd ∧ hd ≤ 1048576) (hsz : t.cells.length + l.length ≤ 1048576) (hs : SeamX false false t.pcs) :
    Calls Tryd.prog 33 #[.pointer (some ⟨b, 0, none⟩), .int .i64 (at_ : Int), .string (txt l), .int .i64 hd] w fun e w' => ∃ t', e = .returned (.int .i64 0) ∧ RopeAt (Kr K w.heap.size) w' b t' ∧ t'.cells = insC t.cells at_ l hd ∧ w.grownBy w' (some b) ∧ SeamX false false t'.pcs := by
  have HSE := Lib.hid hs
  clear hs
  obtain ⟨p0, hv, hE, hn, hlt⟩ := h.blk
  have hln : 0 < l.length := List.length_pos_iff.2 hne
  have d0 : decide ((at_ : Int) < 0) = false := decide_eq_false (by omega)
  have d1 : decide (t.cells.length < at_) = false := decide_eq_false (by omega)
  have d2 : decide ((1048576 : Int) < (t.cells.length : Int) + (l.length : Int)) = false := decide_eq_false (by omega)
  have d3 : (l.length == 0) = false := beq_eq_false_iff_ne.mpr (by omega)
  have d4 : ((l.length : Int) == 0) = false := beq_eq_false_iff_ne.mpr (by omega)
  have b1 : (t.cells.length : Int) ≤ 1048576 := by omega
  have b2 : (l.length : Int) ≤ 1048576 := by omega
  have hc := counter_yes hh.1 hh.2
  have HC := Lib.hid hc
  have HH := Lib.hid hh
  have HSZ := Lib.hid hsz
  have HA := Lib.hid ha
  have HV := Lib.hid hv
  have HLT := Lib.hid hlt
  clear hc hh hsz ha hln hne
  have tok : True := trivial
  have tok2 : True := trivial
  have hc0 := (box_cell HV.out (Below.refl _ w)).1
  go_enter Tryd.func33, Tryd.ntmps33
  go_wp2_with (first
    | (go_at_call 19; clear tok; refine (total_calls h).mono ?_; rintro e w1 ⟨rfl, hb1⟩)
    | (go_at_call 53; refine (check_yes hl (by have := HSZ.out; omega) (hw.below hb1)).mono ?_; rintro e w2 ⟨rfl, hb2⟩; have hb12 := hb1.trans (hb2.mono hb1.size))
    | (go_at_call 54; refine (rope_counter.calls _ _ _ HC.out).mono ?_; rintro e w3 ⟨rfl, ⟨nd, rfl⟩⟩; have hb13 := pw_below_drewN hb12 nd)
    | (go_at_call 19; refine (total_calls (h.below hb13)).mono ?_; rintro e w4 ⟨rfl, hb4⟩; have hb14 := hb13.trans (hb4.mono hb13.size); have hE4 := hE.below hb14; have hc4 := (box_cell HV.out hb14).1)
    | (go_at_call 72; refine (split_env hE4 List.mem_cons_self HA.out (by have := HSZ.out; omega)).mono ?_; rintro e w5 ⟨ta, tb, va, vb, rfl, hE5, hpa, hpb⟩; have hca := ptake_cells hpa; have hcb := pdrop_cells hpb; have HPA := Lib.hid (show SeamX false true ta.pcs by rw [hpa]; exact HSE.out.take _); have HPB := Lib.hid (show SeamX true false tb.pcs by rw [hpb]; exact HSE.out.drop _); clear hpa hpb)
    | (go_at_call 56; refine (runesOf_sl l hl.rns (by have := HSZ.out; omega) w5).mono ?_; rintro e w6 ⟨A6, c6, rfl, hV6, hb6⟩)
    | (go_at_call 55; refine (cutUp_pcs hV6 (by have := HSZ.out; omega) ⟨HH.out.1, by have := HH.out.2; omega⟩).mono ?_; rintro e w7 ⟨A7, c7, qs, rfl, hqc, hqp, hqs, hql, hP7, hK7, hb7⟩; have HP7 := Lib.hid (show SeamX false false (ppcs qs) by rw [ppcs_ppl, hqs]; exact cutS_seam l hd); clear hqs; have hE7 := ((hE5.below hb6).below hb7).addPs (fun q hq => (hK7 q hq).mono (fun k hk => .inr (by have := hE5.bel.size; have := hb6.size; omega))))
    | (go_at_call 57; refine (build_env hE7 (qs := qs) (fun q hq => List.mem_append_left _ hq) hP7 hqc (by rw [hqp, List.length_map]; have := HSZ.out; omega) (by have := HSZ.out; omega)).mono ?_; rintro e w8 ⟨t8, v8, rfl, hE8, hp8, _, _⟩; have hc8 := ppcs_cells hp8; have HP8 := Lib.hid (show SeamX false false t8.pcs by rw [hp8]; exact HP7.out); clear hp8)
    | (go_at_call 73; clear tok2; refine (mend_env hE8 (l := ta) (r := t8) m1 m0 ?_).mono ?_; (rw [hc8, hqp, hca, List.length_map, List.length_take]; have := HSZ.out; have := HA.out; omega); rintro e w9 ⟨t9, p9, rfl, hE9, hc9, hs9⟩; rw [← Tree.cells_pcs, ← Tree.cells_pcs] at hc9; have HP9 := Lib.hid (mended_seam (g := false) hs9 HPA.out HP8.out.up); clear hs9)
    | (go_at_call 73; refine (mend_env hE9 (l := t9) (r := tb) m0 m3 ?_).mono ?_; (rw [hc9, hc8, hqp, hca, hcb, List.length_append, List.length_map, List.length_take, List.length_drop]; have := HSZ.out; have := HA.out; omega); rintro e wa ⟨ta', pa, rfl, hEa, hca', hsa⟩; rw [← Tree.cells_pcs, ← Tree.cells_pcs] at hca'; have HPZ := Lib.hid (mended_seam (g := false) hsa HP9.out.up HPB.out); clear hsa; have hya := box_cell HV.out hEa.bel; obtain ⟨hya1, hya2⟩ := hya; have hla := Nat.lt_of_lt_of_le HLT.out hEa.bel.size))
  go_ret
  exact ⟨ta', rfl, RopeAt.put HV.out hn hEa, by rw [hca', hc9, hc8, hqp, hca, hcb]; rfl, grown_after hEa.bel grown_set, HPZ.out⟩
end Go.Proofs.YteeigokkafcaaaaDoorRope.P2
end
section
namespace Go.Proofs.YteeigokkafcaaaaDoorRope.P2
open Go.RowKit Go.Proofs.YteeigokkafcaaaaDoorW.PrintWords Go.Proofs.YteeigokkafcaaaaDoorW.PrintMore Go.Proofs.YteeigokkafcaaaaDoorRope Go.Proofs.YteeigokkafcaaaaDoor.Pr
set_option linter.unusedSimpArgs false
set_option linter.unusedVariables false
attribute [local go_sem] run_field2 run_field0 run_field3 run_field5
def BumI (K : Nat → Prop) (w W : World) (cs : List (Int × Int)) (l : List (Nat × Nat)) (b : Int) (v9 v51 : Value) (wx : World) : Prop :=
  ∃ (i : Nat) (t : Tree) (q : Option Addr), v51 = .int .i64 (i : Int) ∧ i ≤ l.length ∧ v9 = .pointer q ∧ Env K w wx [(t, .pointer q)] [] [] ∧ t.cells = bumpC cs (l.take i) b ∧ Below W.heap.size W wx ∧ SeamX false false t.pcs
theorem BumI.mk {K : Nat → Prop} {w W wx : World} {cs : List (Int × Int)} {l : List (Nat × Nat)} {b : Int} {v9 : Value} {x : Int} (i : Nat) (t : Tree) (hx : x = (i : Int)) (hi : i ≤ l.length) (hE : Env K w wx [(t, v9)] [] []) (hc : t.cells = bumpC cs (l.take i) b) (hB : Below W.heap.size W wx) (hs : SeamX false false t.pcs) : BumI K w W cs l b v9 (.int .i64 x) wx := by
  obtain ⟨q, rfl⟩ := (hE.t _ List.mem_cons_self).rep.ptr
  exact ⟨i, t, q, by rw [hx], hi, rfl, hE, hc, hB, hs⟩
set_option maxRecDepth 100000 in
set_option maxHeartbeats 32000000 in
theorem bump_up {K : Nat → Prop} {w : World} {b : Nat} {t : Tree} (h : RopeAt K w b t) {l : List (Nat × Nat)} (hN : Norm l t.cells.length) (hok : BumpOk t.cells l (1)) (hsz : t.cells.length ≤ 1048576) (hs : SeamX false false t.pcs) {A : Option Addr} {c : Nat} (hA : Kd.C k133 w A l.length (sRng l)) (hc : l.length ≤ c) :
    Calls Tryd.prog 39 #[.pointer (some ⟨b, 0, none⟩), .slice A l.length c, .int .i64 (1)] w fun e w' => ∃ t', e = .returned (.int .i64 0) ∧ RopeAt (Kr K w.heap.size) w' b t' ∧ t'.cells = bumpC t.cells l (1) ∧ w.grownBy w' (some b) ∧ SeamX false false t'.pcs := by
  have HSE := Lib.hid hs
  clear hs
  obtain ⟨p0, hv, hE, hn, hlt⟩ := h.blk
  obtain ⟨cs, hcs⟩ : ∃ cs, cs = t.cells := ⟨_, rfl⟩
  rw [← hcs] at hN hok hsz ⊢
  have hlb := hN.len
  have hch := fun (W : World) (hW : Below w.heap.size w W) => check_calls hN hsz (Kd.C_below hA hW) hc
  have HCH := Lib.hid hch
  have HCS := Lib.hid hcs
  have HSZ := Lib.hid hsz
  have HV := Lib.hid hv
  have HLT := Lib.hid hlt
  have HOK := Lib.hid hok
  have HNM := Lib.hid hN
  have lb : (l.length : Int) ≤ 32768 := by omega
  have b1 : (cs.length : Int) ≤ 1048576 := by omega
  clear hch hcs hsz hv hok hlt hN hlb
  go_enter Tryd.func39, Tryd.ntmps39
  go_wp2_with (go_at_call 37; refine (HCH.out w (Below.refl _ _)).mono ?_; rintro e w1 ⟨rfl, hb1⟩)
  go_cut [6, 44] from 30 to 44 (fun v6 v44 wx => v6 = .int .i64 0 ∧ v44 = .bool false ∧ Below w.heap.size w wx)
  case first =>
    by_cases hl0 : l.length = 0
    · have d0 : decide (0 < l.length) = false := decide_eq_false (by omega)
      clear hl0
      go_quiet (fail)
      go_wp2
      go_meet
      exact ⟨rfl, rfl, pw_below_drewN hb1 _⟩
    · obtain ⟨ad, hAd, y0, y1⟩ := rng_cell hA (k := l.length - 1) (by omega)
      subst hAd
      have d0 : decide (0 < l.length) = true := decide_eq_true (by omega)
      have hone := (HNM.out.one _ (List.getElem_mem (show l.length - 1 < l.length by omega))).2
      obtain ⟨R, hR⟩ : ∃ R, R = l[l.length - 1].2 := ⟨_, rfl⟩
      rw [← hR] at y1 hone
      obtain ⟨j, hj⟩ : ∃ j : Int, (l.length : Int) - 1 = j := ⟨_, rfl⟩
      have wk : IntKind.i64.wrap ((l.length : Int) - 1) = j := ((IntWalk.i64_left _).trans (w64 (by omega) (by omega))).trans hj
      have kn : l.length - 1 = j.toNat := by omega
      rw [kn] at y1
      have g0 : (0 ≤ j) = True := eq_true (by omega)
      have g1 : (j < (l.length : Int)) = True := eq_true (by omega)
      have d2 : decide (t.cells.length < R) = false := decide_eq_false (by rw [← HCS.out]; omega)
      have y2 := pw_cell_below hb1 y1
      clear hl0 y0 y1 kn hj hone hR
      have q0 := y2
      have q1 := y2
      go_region_held3 (fun W' => W'.cell? ⟨(ad.add (j.toNat * 2)).block, (ad.add (j.toNat * 2)).off + 1, none⟩ = some (.int .i64 (R : Int)))
        (first | exact q0 | exact q1 | fail)
        (first | (go_at_call 19; refine (total_calls (h.below (pw_below_drewN hb1 _))).mono ?_; rintro e w4 ⟨rfl, hb4⟩; have q1 := pw_cell_below hb4 (show (World.drewN _ _).cell? _ = _ from q0)) | fail)
      go_wp2
      go_meet
      exact ⟨rfl, rfl, hb1.trans ((pw_below_drewN (Below.refl _ w1) 1).trans hb4 |>.mono hb1.size)⟩
  case rest =>
    obtain ⟨rfl, rfl, hB⟩ := hcut
    have hc0 := (box_cell HV.out hB).1
    go_wp2
    go_loopw [9, 51] (fun v9 v51 wx => BumI (Kr K w.heap.size) w w cs l (1) v9 v51 wx) (fun _ i _ => l.length - (intOf i).toNat)
    case atStart => exact BumI.mk 0 t rfl (Nat.zero_le _) (hE.below hB) (by rw [HCS.out]; rfl) hB HSE.out
    case round =>
      obtain ⟨i, ti, q, rfl, hil, rfl, hEi, hci, hBi, hsi⟩ := hrel
      have HSI := Lib.hid hsi
      clear hsi
      by_cases hlt : i < l.length
      · obtain ⟨ad, hAd, y0, y1⟩ := rng_cell hA hlt
        subst hAd
        have z0 := pw_cell_below hBi y0
        have z1 := pw_cell_below hBi y1
        obtain ⟨g1, g2⟩ := HNM.out.one _ (List.getElem_mem hlt)
        have hln := (bumpC_inv (b := 1) HNM.out i hil).1
        have hmid := bumpC_mid (b := 1) HNM.out hlt
        have hok1 := HOK.out _ (List.getElem_mem hlt)
        have htk := bumpC_take (cs := cs) (b := 1) hlt
        obtain ⟨⟨lo, hi⟩, hrr⟩ : ∃ x, l[i] = x := ⟨_, rfl⟩
        rw [hrr] at z0 z1 g1 g2 hmid hok1 htk
        dsimp only at z0 z1 g1 g2 hmid hok1
        rw [← hci] at hln hmid htk
        have hsz := HSZ.out
        obtain ⟨x, hx⟩ : ∃ x : Int, x = ((hi - lo : Nat) : Int) := ⟨_, rfl⟩
        have wx1 : IntKind.i64.wrap ((hi : Int) - (lo : Int)) = x := ((IntWalk.i64_left _).trans (w64 (by omega) (by omega))).trans (by omega)
        have u1 : (i : Int) ≤ 1048576 := by omega
        have G1 := Lib.hid g1
        have G2 := Lib.hid g2
        have HLN := Lib.hid hln
        have HX := Lib.hid hx
        have HMID := Lib.hid hmid
        have HTK := Lib.hid htk
        have HOK1 := Lib.hid hok1
        clear y0 y1 g1 g2 hln hx hmid htk hok1 hsz hrr
        have tok : True := trivial
        have tok2 : True := trivial
        have e0 := (hEi.box (.cells #[.int .i64 (lo : Int), .int .i64 (hi : Int)] 133))
        go_wp2_with (first
          | (go_at_call 72; (clear tok; refine (split_int e0 List.mem_cons_self lo rfl (by have := HLN.out; have := G1.out; have := G2.out; omega) (by have := HLN.out; have := HSZ.out; omega)).mono ?_; rintro e w2 ⟨ta, tb, va, vb, rfl, hE2, hpa, hpb⟩; have hca := ptake_cells hpa; have hcb := pdrop_cells hpb; have HPA := Lib.hid (show SeamX false true ta.pcs by rw [hpa]; exact HSI.out.take _); have HPB := Lib.hid (show SeamX true false tb.pcs by rw [hpb]; exact HSI.out.drop _); clear hpa hpb; have hx2 := cells2k (hE2.b _ List.mem_cons_self); obtain ⟨c0, c1⟩ := hx2))
          | (go_at_call 72; refine (split_int hE2 (List.mem_cons_of_mem _ List.mem_cons_self) (hi - lo) HX.out (by rw [hcb, List.length_drop]; have := HLN.out; have := G1.out; have := G2.out; omega) (by rw [hcb, List.length_drop]; have := HLN.out; have := HSZ.out; omega)).mono ?_; rintro e w3 ⟨tm, tr, vm, vr, rfl, hE3, hpm, hpr⟩; have hcm := ptake_cells hpm; have hcr := pdrop_cells hpr; have HPM := Lib.hid (show SeamX true true tm.pcs by rw [hpm]; exact HPB.out.take _); have HPR := Lib.hid (show SeamX true false tr.pcs by rw [hpr]; exact HPB.out.drop _); clear hpm hpr; have hcc := bump_mid HMID.out hca hcb hcm hcr (Nat.le_of_lt G1.out); obtain ⟨q1, q2, q3⟩ := hcc)
          | (go_at_call 58; refine (all_env hE3 List.mem_cons_self).mono ?_; rintro e w4 ⟨rfl, hE4⟩; have hmm := Sums_min (x := 1048576) (hE4.t _ List.mem_cons_self).good (by rw [q1]; exact mid_ne G1.out (by have := G2.out; omega)); obtain ⟨hm1, hm2⟩ := hmm; have hmb : (tm.sm.ma == 1048576) = false := beq_eq_false_iff_ne.mpr (hm2 (by rw [q1]; intro c hc; have := HOK1.out c hc; omega)); clear hm1 hm2)
          | (go_at_call 75; refine (lift_env hE4 List.mem_cons_self (by decide) (Tree.Good.of_cells (hE4.t _ List.mem_cons_self).good (by rw [q1]; exact ok_inhid HOK1.out))).mono ?_; rintro e w5 ⟨t5, v5, rfl, hE5, hp5, _, _⟩; have hc5 := lift_cells hp5; have HP5 := Lib.hid (show SeamX true true t5.pcs by rw [hp5]; exact HPM.out.lift _); clear hp5)
          | (go_at_call 73; clear tok2; refine (mend_env hE5 (l := ta) (r := t5) (List.mem_cons_of_mem _ (List.mem_cons_of_mem _ (List.mem_cons_of_mem _ List.mem_cons_self))) List.mem_cons_self (by rw [hca, hc5, q2, List.length_map, List.length_drop, List.length_take, List.length_take]; have := HLN.out; have := G1.out; have := G2.out; have := HSZ.out; omega)).mono ?_; rintro e w6 ⟨t6, p6, rfl, hE6, hc6, hs6⟩; rw [← Tree.cells_pcs, ← Tree.cells_pcs] at hc6; have HP6 := Lib.hid (mended_seam (g := true) hs6 HPA.out HP5.out); clear hs6)
          | (go_at_call 73; refine (mend_env hE6 (l := t6) (r := tr) List.mem_cons_self (List.mem_cons_of_mem _ (List.mem_cons_of_mem _ (List.mem_cons_of_mem _ List.mem_cons_self))) (by rw [hc6, hca, hc5, q2, q3, List.length_append, List.length_map, List.length_drop, List.length_take, List.length_take, List.length_drop]; have := HLN.out; have := G1.out; have := G2.out; have := HSZ.out; omega)).mono ?_; rintro e w7 ⟨t7, p7, rfl, hE7, hc7, hs7⟩; rw [← Tree.cells_pcs, ← Tree.cells_pcs] at hc7; have HP7 := Lib.hid (mended_seam (g := false) hs7 HP6.out HPR.out); clear hs7))
        go_roundw
        case rel => exact BumI.mk (i + 1) t7 (by go_num) hlt (hE7.sub (fun x hx => by rw [List.mem_singleton.1 hx]; exact List.mem_cons_self) (by simp) (by simp)) (by rw [HTK.out, hc7, hc6, hca, hc5, q2, q3]; rfl) hE7.bel HP7.out
        case measure => simp [intOf]; omega
      · have hil2 : i = l.length := by omega
        subst hil2
        rw [List.take_length] at hci
        clear hlt hil
        have hx0 := box_cell HV.out hBi
        obtain ⟨z0, z1⟩ := hx0
        have hla := Nat.lt_of_lt_of_le HLT.out hBi.size
        have d1 : decide (l.length < l.length) = false := decide_eq_false (Nat.lt_irrefl _)
        go_wp2
        go_ret
        exact ⟨ti, rfl, RopeAt.put HV.out hn hEi, hci, grown_after hBi grown_set, HSI.out⟩
set_option maxRecDepth 100000 in
set_option maxHeartbeats 32000000 in
theorem bump_down {K : Nat → Prop} {w : World} {b : Nat} {t : Tree} (h : RopeAt K w b t) {l : List (Nat × Nat)} (hN : Norm l t.cells.length) (hok : BumpOk t.cells l (-1)) (hsz : t.cells.length ≤ 1048576) (hs : SeamX false false t.pcs) {A : Option Addr} {c : Nat} (hA : Kd.C k133 w A l.length (sRng l)) (hc : l.length ≤ c) :
    Calls Tryd.prog 39 #[.pointer (some ⟨b, 0, none⟩), .slice A l.length c, .int .i64 (-1)] w fun e w' => ∃ t', e = .returned (.int .i64 0) ∧ RopeAt (Kr K w.heap.size) w' b t' ∧ t'.cells = bumpC t.cells l (-1) ∧ w.grownBy w' (some b) ∧ SeamX false false t'.pcs := by
  have HSE := Lib.hid hs
  clear hs
  obtain ⟨p0, hv, hE, hn, hlt⟩ := h.blk
  obtain ⟨cs, hcs⟩ : ∃ cs, cs = t.cells := ⟨_, rfl⟩
  rw [← hcs] at hN hok hsz ⊢
  have hlb := hN.len
  have hch := fun (W : World) (hW : Below w.heap.size w W) => check_calls hN hsz (Kd.C_below hA hW) hc
  have HCH := Lib.hid hch
  have HCS := Lib.hid hcs
  have HSZ := Lib.hid hsz
  have HV := Lib.hid hv
  have HLT := Lib.hid hlt
  have HOK := Lib.hid hok
  have HNM := Lib.hid hN
  have lb : (l.length : Int) ≤ 32768 := by omega
  have b1 : (cs.length : Int) ≤ 1048576 := by omega
  clear hch hcs hsz hv hok hlt hN hlb
  go_enter Tryd.func39, Tryd.ntmps39
  go_wp2_with (go_at_call 37; refine (HCH.out w (Below.refl _ _)).mono ?_; rintro e w1 ⟨rfl, hb1⟩)
  go_cut [6, 44] from 30 to 44 (fun v6 v44 wx => v6 = .int .i64 0 ∧ v44 = .bool false ∧ Below w.heap.size w wx)
  case first =>
    by_cases hl0 : l.length = 0
    · have d0 : decide (0 < l.length) = false := decide_eq_false (by omega)
      clear hl0
      go_quiet (fail)
      go_wp2
      go_meet
      exact ⟨rfl, rfl, pw_below_drewN hb1 _⟩
    · obtain ⟨ad, hAd, y0, y1⟩ := rng_cell hA (k := l.length - 1) (by omega)
      subst hAd
      have d0 : decide (0 < l.length) = true := decide_eq_true (by omega)
      have hone := (HNM.out.one _ (List.getElem_mem (show l.length - 1 < l.length by omega))).2
      obtain ⟨R, hR⟩ : ∃ R, R = l[l.length - 1].2 := ⟨_, rfl⟩
      rw [← hR] at y1 hone
      obtain ⟨j, hj⟩ : ∃ j : Int, (l.length : Int) - 1 = j := ⟨_, rfl⟩
      have wk : IntKind.i64.wrap ((l.length : Int) - 1) = j := ((IntWalk.i64_left _).trans (w64 (by omega) (by omega))).trans hj
      have kn : l.length - 1 = j.toNat := by omega
      rw [kn] at y1
      have g0 : (0 ≤ j) = True := eq_true (by omega)
      have g1 : (j < (l.length : Int)) = True := eq_true (by omega)
      have d2 : decide (t.cells.length < R) = false := decide_eq_false (by rw [← HCS.out]; omega)
      have y2 := pw_cell_below hb1 y1
      clear hl0 y0 y1 kn hj hone hR
      have q0 := y2
      have q1 := y2
      go_region_held3 (fun W' => W'.cell? ⟨(ad.add (j.toNat * 2)).block, (ad.add (j.toNat * 2)).off + 1, none⟩ = some (.int .i64 (R : Int)))
        (first | exact q0 | exact q1 | fail)
        (first | (go_at_call 19; refine (total_calls (h.below (pw_below_drewN hb1 _))).mono ?_; rintro e w4 ⟨rfl, hb4⟩; have q1 := pw_cell_below hb4 (show (World.drewN _ _).cell? _ = _ from q0)) | fail)
      go_wp2
      go_meet
      exact ⟨rfl, rfl, hb1.trans ((pw_below_drewN (Below.refl _ w1) 1).trans hb4 |>.mono hb1.size)⟩
  case rest =>
    obtain ⟨rfl, rfl, hB⟩ := hcut
    have hc0 := (box_cell HV.out hB).1
    go_wp2
    go_loopw [9, 51] (fun v9 v51 wx => BumI (Kr K w.heap.size) w w cs l (-1) v9 v51 wx) (fun _ i _ => l.length - (intOf i).toNat)
    case atStart => exact BumI.mk 0 t rfl (Nat.zero_le _) (hE.below hB) (by rw [HCS.out]; rfl) hB HSE.out
    case round =>
      obtain ⟨i, ti, q, rfl, hil, rfl, hEi, hci, hBi, hsi⟩ := hrel
      have HSI := Lib.hid hsi
      clear hsi
      by_cases hlt : i < l.length
      · obtain ⟨ad, hAd, y0, y1⟩ := rng_cell hA hlt
        subst hAd
        have z0 := pw_cell_below hBi y0
        have z1 := pw_cell_below hBi y1
        obtain ⟨g1, g2⟩ := HNM.out.one _ (List.getElem_mem hlt)
        have hln := (bumpC_inv (b := (-1)) HNM.out i hil).1
        have hmid := bumpC_mid (b := (-1)) HNM.out hlt
        have hok1 := HOK.out _ (List.getElem_mem hlt)
        have htk := bumpC_take (cs := cs) (b := (-1)) hlt
        obtain ⟨⟨lo, hi⟩, hrr⟩ : ∃ x, l[i] = x := ⟨_, rfl⟩
        rw [hrr] at z0 z1 g1 g2 hmid hok1 htk
        dsimp only at z0 z1 g1 g2 hmid hok1
        rw [← hci] at hln hmid htk
        have hsz := HSZ.out
        obtain ⟨x, hx⟩ : ∃ x : Int, x = ((hi - lo : Nat) : Int) := ⟨_, rfl⟩
        have wx1 : IntKind.i64.wrap ((hi : Int) - (lo : Int)) = x := ((IntWalk.i64_left _).trans (w64 (by omega) (by omega))).trans (by omega)
        have u1 : (i : Int) ≤ 1048576 := by omega
        have G1 := Lib.hid g1
        have G2 := Lib.hid g2
        have HLN := Lib.hid hln
        have HX := Lib.hid hx
        have HMID := Lib.hid hmid
        have HTK := Lib.hid htk
        have HOK1 := Lib.hid hok1
        clear y0 y1 g1 g2 hln hx hmid htk hok1 hsz hrr
        have tok : True := trivial
        have tok2 : True := trivial
        have e0 := (hEi.box (.cells #[.int .i64 (lo : Int), .int .i64 (hi : Int)] 133))
        go_wp2_with (first
          | (go_at_call 72; (clear tok; refine (split_int e0 List.mem_cons_self lo rfl (by have := HLN.out; have := G1.out; have := G2.out; omega) (by have := HLN.out; have := HSZ.out; omega)).mono ?_; rintro e w2 ⟨ta, tb, va, vb, rfl, hE2, hpa, hpb⟩; have hca := ptake_cells hpa; have hcb := pdrop_cells hpb; have HPA := Lib.hid (show SeamX false true ta.pcs by rw [hpa]; exact HSI.out.take _); have HPB := Lib.hid (show SeamX true false tb.pcs by rw [hpb]; exact HSI.out.drop _); clear hpa hpb; have hx2 := cells2k (hE2.b _ List.mem_cons_self); obtain ⟨c0, c1⟩ := hx2))
          | (go_at_call 72; refine (split_int hE2 (List.mem_cons_of_mem _ List.mem_cons_self) (hi - lo) HX.out (by rw [hcb, List.length_drop]; have := HLN.out; have := G1.out; have := G2.out; omega) (by rw [hcb, List.length_drop]; have := HLN.out; have := HSZ.out; omega)).mono ?_; rintro e w3 ⟨tm, tr, vm, vr, rfl, hE3, hpm, hpr⟩; have hcm := ptake_cells hpm; have hcr := pdrop_cells hpr; have HPM := Lib.hid (show SeamX true true tm.pcs by rw [hpm]; exact HPB.out.take _); have HPR := Lib.hid (show SeamX true false tr.pcs by rw [hpr]; exact HPB.out.drop _); clear hpm hpr; have hcc := bump_mid HMID.out hca hcb hcm hcr (Nat.le_of_lt G1.out); obtain ⟨q1, q2, q3⟩ := hcc)
          | (go_at_call 58; refine (all_env hE3 List.mem_cons_self).mono ?_; rintro e w4 ⟨rfl, hE4⟩; have hmm := Sums_min (x := 0) (hE4.t _ List.mem_cons_self).good (by rw [q1]; exact mid_ne G1.out (by have := G2.out; omega)); obtain ⟨hm1, hm2⟩ := hmm; have hmb : (tm.sm.mi == 0) = false := beq_eq_false_iff_ne.mpr (hm1 (by rw [q1]; intro c hc; have := HOK1.out c hc; omega)); clear hm1 hm2)
          | (go_at_call 75; refine (lift_env hE4 List.mem_cons_self (by decide) (Tree.Good.of_cells (hE4.t _ List.mem_cons_self).good (by rw [q1]; exact ok_inhid HOK1.out))).mono ?_; rintro e w5 ⟨t5, v5, rfl, hE5, hp5, _, _⟩; have hc5 := lift_cells hp5; have HP5 := Lib.hid (show SeamX true true t5.pcs by rw [hp5]; exact HPM.out.lift _); clear hp5)
          | (go_at_call 73; clear tok2; refine (mend_env hE5 (l := ta) (r := t5) (List.mem_cons_of_mem _ (List.mem_cons_of_mem _ (List.mem_cons_of_mem _ List.mem_cons_self))) List.mem_cons_self (by rw [hca, hc5, q2, List.length_map, List.length_drop, List.length_take, List.length_take]; have := HLN.out; have := G1.out; have := G2.out; have := HSZ.out; omega)).mono ?_; rintro e w6 ⟨t6, p6, rfl, hE6, hc6, hs6⟩; rw [← Tree.cells_pcs, ← Tree.cells_pcs] at hc6; have HP6 := Lib.hid (mended_seam (g := true) hs6 HPA.out HP5.out); clear hs6)
          | (go_at_call 73; refine (mend_env hE6 (l := t6) (r := tr) List.mem_cons_self (List.mem_cons_of_mem _ (List.mem_cons_of_mem _ (List.mem_cons_of_mem _ List.mem_cons_self))) (by rw [hc6, hca, hc5, q2, q3, List.length_append, List.length_map, List.length_drop, List.length_take, List.length_take, List.length_drop]; have := HLN.out; have := G1.out; have := G2.out; have := HSZ.out; omega)).mono ?_; rintro e w7 ⟨t7, p7, rfl, hE7, hc7, hs7⟩; rw [← Tree.cells_pcs, ← Tree.cells_pcs] at hc7; have HP7 := Lib.hid (mended_seam (g := false) hs7 HP6.out HPR.out); clear hs7))
        go_roundw
        case rel => exact BumI.mk (i + 1) t7 (by go_num) hlt (hE7.sub (fun x hx => by rw [List.mem_singleton.1 hx]; exact List.mem_cons_self) (by simp) (by simp)) (by rw [HTK.out, hc7, hc6, hca, hc5, q2, q3]; rfl) hE7.bel HP7.out
        case measure => simp [intOf]; omega
      · have hil2 : i = l.length := by omega
        subst hil2
        rw [List.take_length] at hci
        clear hlt hil
        have hx0 := box_cell HV.out hBi
        obtain ⟨z0, z1⟩ := hx0
        have hla := Nat.lt_of_lt_of_le HLT.out hBi.size
        have d1 : decide (l.length < l.length) = false := decide_eq_false (Nat.lt_irrefl _)
        go_wp2
        go_ret
        exact ⟨ti, rfl, RopeAt.put HV.out hn hEi, hci, grown_after hBi grown_set, HSI.out⟩
end Go.Proofs.YteeigokkafcaaaaDoorRope.P2
end
section
namespace Go.Proofs.YteeigokkafcaaaaDoorRope.P2
open Go.RowKit Go.Proofs.YteeigokkafcaaaaDoorW.PrintWords Go.Proofs.YteeigokkafcaaaaDoorW.PrintMore Go.Proofs.YteeigokkafcaaaaDoorRope Go.Proofs.YteeigokkafcaaaaDoor.Pr
set_option linter.unusedSimpArgs false
set_option linter.unusedVariables false
theorem run_field1 (W : World) (x0 x1 x2 x3 x4 x5 : Int) : (Instr.field 110 (.agg #[.int .i64 x0, .int .i64 x1, .int .i64 x2, .int .i64 x3, .int .i64 x4, .int .i64 x5]) 1).run Tryd.prog W = .ok (.int .i64 x1) W := by
  kernel_rfl
attribute [local go_sem] run_field1 run_field2
def RopeHas (W : World) (b : Nat) (cs : List (Int × Int)) : Prop := ∃ K t, RopeAt K W b t ∧ t.cells = cs ∧ SeamX false false t.pcs
theorem RopeHas.below {W W' : World} {b : Nat} {cs : List (Int × Int)} (h : RopeHas W b cs) (hb : Below W.heap.size W W') : RopeHas W' b cs := by
  obtain ⟨K, t, h, hc, hs⟩ := h
  exact ⟨K, t, h.below hb, hc, hs⟩
theorem RopeHas.plain {W : World} {b : Nat} {cs : List (Int × Int)} (h : RopeHas W b cs) : Go.Proofs.YteeigokkafcaaaaDoorRope.RopeHas W b cs := by
  obtain ⟨K, t, h, hc, hs⟩ := h
  exact ⟨K, t, h, hc⟩
theorem RopeHas.lt {W : World} {b : Nat} {cs : List (Int × Int)} (h : RopeHas W b cs) : b < W.heap.size := h.plain.lt
def KeptAt (W : World) (b : Nat) (cs : List (Int × Int)) (k h : Nat) : Prop := ∃ K t, RopeAt K W b t ∧ t.cells = cs ∧ SeamX false false t.pcs ∧ t.size = k ∧ t.ht = h
theorem RopeHas.kept {W : World} {b : Nat} {cs : List (Int × Int)} (h : RopeHas W b cs) : ∃ k h, KeptAt W b cs k h := by
  obtain ⟨K, t, h, hc, hs⟩ := h
  exact ⟨_, _, K, t, h, hc, hs, rfl, rfl⟩
theorem KeptAt.below {W W' : World} {b : Nat} {cs : List (Int × Int)} {k h : Nat} (H : KeptAt W b cs k h) (hb : Below W.heap.size W W') : KeptAt W' b cs k h := by
  obtain ⟨K, t, h, hc, hs, h1, h2⟩ := H
  exact ⟨K, t, h.below hb, hc, hs, h1, h2⟩
theorem KeptAt.count {W : World} {b : Nat} {cs : List (Int × Int)} {k h : Nat} (H : KeptAt W b cs k h) {L : List (List Int × Int)} (hL : Few L) (hc : rcells L = cs) : L.length ≤ k ∧ k ≤ L.length + cs.length / 16 := by
  obtain ⟨K, t, ⟨⟨v, _, ht⟩, _⟩, rfl, hs, rfl, rfl⟩ := H
  exact kept_count ht.good hs hL hc
theorem KeptAt.levels {W : World} {b : Nat} {cs : List (Int × Int)} {k h : Nat} (H : KeptAt W b cs k h) {d : Nat} (h1 : k < 2 ^ d) (h2 : 0 < d → 2 ^ (d - 1) ≤ k) : d ≤ h ∧ h ≤ 2 * d := by
  obtain ⟨K, t, ⟨⟨v, _, ht⟩, _⟩, rfl, hs, rfl, rfl⟩ := H
  exact ht_of ht.good h1 h2
set_option maxRecDepth 100000 in
set_option maxHeartbeats 4000000 in
theorem rope_leaves {W : World} {b : Nat} {cs : List (Int × Int)} {k h : Nat} (H : KeptAt W b cs k h) : Calls Tryd.prog 24 #[.pointer (some ⟨b, 0, none⟩)] W fun e w' => e = .returned (.int .i64 (k : Int)) ∧ Below W.heap.size W w' := by
  obtain ⟨K, t, h, _, _, rfl, rfl⟩ := H
  obtain ⟨v, hv, hE, p, rfl⟩ := h.env
  have hlv := (hE.t _ List.mem_cons_self).good.lv
  have HLV := Lib.hid hlv
  clear hlv
  go_enter Tryd.func24, Tryd.ntmps24
  go_wp2_with (go_at_call 58; refine (all_env hE List.mem_cons_self).mono ?_; rw [HLV.out]; rintro e w1 ⟨rfl, hE1⟩)
  go_ret
  exact ⟨rfl, hE1.bel⟩
set_option maxRecDepth 100000 in
set_option maxHeartbeats 4000000 in
theorem rope_height {W : World} {b : Nat} {cs : List (Int × Int)} {k h : Nat} (H : KeptAt W b cs k h) : Calls Tryd.prog 26 #[.pointer (some ⟨b, 0, none⟩)] W fun e w' => e = .returned (.int .i64 (h : Int)) ∧ Below W.heap.size W w' := by
  obtain ⟨K, t, h, _, _, rfl, rfl⟩ := H
  obtain ⟨v, hv, hE, p, rfl⟩ := h.env
  go_enter Tryd.func26, Tryd.ntmps26
  go_wp2_with (go_at_call 58; refine (all_env hE List.mem_cons_self).mono ?_; rintro e w1 ⟨rfl, hE1⟩)
  go_ret
  exact ⟨rfl, hE1.bel⟩
theorem from_c {ps : List (Int × Int)} {w : World} {A : Option Addr} {c : Nat} (hw : BarsAt w) (hA : Kd.C k58 w A (runsL ps).length (sRuns (runsL ps))) (hc : (runsL ps).length ≤ c) :
    Calls Tryd.prog 18 #[.slice A (runsL ps).length c] w fun e w' => ∃ b, e = .returned (.tuple #[.pointer (some ⟨b, 0, none⟩), .int .i64 0]) ∧ w.heap.size ≤ b ∧ b ≠ 0 ∧ RopeHas w' b (rcells (runsL ps)) ∧ Below w.heap.size w w' := by
  have h1 := runsL_cells ps
  have h2 := runsL_len ps
  refine (from_yes (runsL_good ps) (by omega) (by omega) hw hA hc).mono ?_
  rintro e w' ⟨b, t, he, hb, hR, hct, hB, hs⟩
  exact ⟨b, he, hb, by have := hw.lt; omega, ⟨_, t, hR, hct, hs⟩, hB⟩
section
variable {W : World} {b : Nat} {cs : List (Int × Int)}
theorem rope_insert (h : RopeHas W b cs) (hw : BarsAt W) {at_ : Nat} {l : List Int} {hd : Int} (ha : at_ ≤ cs.length) (hl : Lets l) (hne : l ≠ []) (hh : 0 ≤ hd ∧ hd ≤ 1048576) (hsz : cs.length + l.length ≤ 1048576) : Calls Tryd.prog 33 #[.pointer (some ⟨b, 0, none⟩), .int .i64 (at_ : Int), .string (txt l), .int .i64 hd] W fun e w' => e = .returned (.int .i64 0) ∧ RopeHas w' b (insC cs at_ l hd) ∧ W.grownBy w' (some b) := by
  obtain ⟨K, t, h, rfl, hs⟩ := h
  refine (insert_yes h hw ha hl hne hh hsz hs).mono ?_
  rintro e w' ⟨t', he, h', hc, hg, hs'⟩
  exact ⟨he, ⟨_, t', h', hc, hs'⟩, hg⟩
theorem rope_bump (h : RopeHas W b cs) {l : List (Nat × Nat)} {by_ : Int} (hby : by_ = 1 ∨ by_ = -1) (hN : Norm l cs.length) (hok : BumpOk cs l by_) (hsz : cs.length ≤ 1048576) {A : Option Addr} {c : Nat} (hA : Kd.C k133 W A l.length (sRng l)) (hc : l.length ≤ c) : Calls Tryd.prog 39 #[.pointer (some ⟨b, 0, none⟩), .slice A l.length c, .int .i64 by_] W fun e w' => e = .returned (.int .i64 0) ∧ RopeHas w' b (bumpC cs l by_) ∧ W.grownBy w' (some b) := by
  obtain ⟨K, t, h, rfl, hs⟩ := h
  rcases hby with rfl | rfl
  · refine (bump_up h hN hok hsz hs hA hc).mono ?_
    rintro e w' ⟨t', he, h', hc, hg, hs'⟩
    exact ⟨he, ⟨_, t', h', hc, hs'⟩, hg⟩
  · refine (bump_down h hN hok hsz hs hA hc).mono ?_
    rintro e w' ⟨t', he, h', hc, hg, hs'⟩
    exact ⟨he, ⟨_, t', h', hc, hs'⟩, hg⟩
end
structure Sta (w W : World) (b : Nat) (A : Option Addr) (c : Nat) (cs cs' : List (Int × Int)) : Prop where
  gr : w.grownBy W (some b)
  bars : BarsAt W
  row : Row (fun k => k = b) W A c cs
  rope : RopeHas W b cs'
  nz : b ≠ 0
section
variable {w W W' : World} {b : Nat} {A : Option Addr} {c : Nat} {cs cs' cs'' : List (Int × Int)}
theorem Sta.step (h : Sta w W b A c cs cs') (hb : Below W.heap.size W W') : Sta w W' b A c cs cs' :=
  ⟨grownBy_join h.gr (grownBy_of_below hb), h.bars.below hb, h.row.below hb, h.rope.below hb, h.nz⟩
theorem Sta.put (h : Sta w W b A c cs cs') (hg : W.grownBy W' (some b)) (hr : RopeHas W' b cs'') : Sta w W' b A c cs cs'' :=
  ⟨grownBy_join h.gr hg, h.bars.grown hg h.nz, h.row.grown hg rfl, hr, h.nz⟩
theorem Sta.row' {A' : Option Addr} {c' : Nat} (h : Sta w W b A c cs cs') (hb : Below W.heap.size W W') {ok : Nat → Prop} (hr : Kd.R k36 36 W' W.heap.size ok (.slice A' cs''.length c') (sCells cs'')) : Sta w W' b A' c' cs'' cs' ∧ Row (fun k => k < w.heap.size) W' A' c' cs'' := by
  have h' := h.step hb
  have hlt := h.rope.lt
  refine ⟨⟨h'.gr, h'.bars, ⟨W.heap.size, Kd.R_mono (Kd.R_bound hr) (fun k hk e => ?_)⟩, h'.rope, h'.nz⟩, ⟨W.heap.size, Kd.R_mono (Kd.R_bound hr) (fun k hk e => ?_)⟩⟩
  · have := hk.2.1
    omega
  · have := hk.2.1
    have := h.gr.size
    omega
end
set_option maxRecDepth 100000 in
set_option maxHeartbeats 16000000 in
theorem actsD_put {w W : World} {b : Nat} {A : Option Addr} {c : Nat} {cs : List (Int × Int)} {H : Int} (S : Sta w W b A c cs cs) (hr : RowOk H cs) (hH : 2 ≤ H) (hl : cs.length ≤ 20000) (ka kb kn : Int) :
    Calls Tryd.prog 27 #[.pointer (some ⟨b, 0, none⟩), .slice A cs.length c, .agg #[.int .i64 0, .int .i64 ka, .int .i64 kb, .int .i64 kn]] W fun e w' => ∃ A' c', e = .returned (.tuple #[.slice A' (actC cs 0 ka kb kn).length c', .bool true]) ∧ Sta w w' b A' c' (actC cs 0 ka kb kn) (actC cs 0 ka kb kn) ∧ Row (fun k => k < w.heap.size) w' A' c' (actC cs 0 ka kb kn) ∧ RowOk (H + 1) (actC cs 0 ka kb kn) ∧ (actC cs 0 ka kb kn).length ≤ cs.length + 48 := by
  obtain ⟨N, hN⟩ : ∃ N, N = cs.length := ⟨_, rfl⟩
  have bN : (N : Int) ≤ 20000 := by omega
  have m1 := Int.emod_nonneg ka (show ((N : Int) + 1) ≠ 0 by omega)
  have m2 := Int.emod_lt_of_pos ka (show (0 : Int) < (N : Int) + 1 by omega)
  obtain ⟨at_, hat⟩ : ∃ at_ : Nat, ka % ((N : Int) + 1) = (at_ : Int) := ⟨(ka % ((N : Int) + 1)).toNat, by omega⟩
  have m3 := Int.emod_nonneg kn (show (48 : Int) ≠ 0 by decide)
  have m4 := Int.emod_lt_of_pos kn (show (0 : Int) < 48 by decide)
  obtain ⟨q, hq⟩ : ∃ q : Nat, kn % 48 = (q : Int) := ⟨(kn % 48).toNat, by omega⟩
  have m5 := Int.emod_nonneg kb (show (3 : Int) ≠ 0 by decide)
  have m6 := Int.emod_lt_of_pos kb (show (0 : Int) < 3 by decide)
  obtain ⟨hd, hhd⟩ : ∃ hd : Int, kb % 3 = hd := ⟨_, rfl⟩
  have hd0 : 0 ≤ hd ∧ hd ≤ 2 := by omega
  have hatN : at_ ≤ cs.length := by omega
  have hq48 : q < 48 := by omega
  clear m1 m2 m3 m4 m5 m6
  obtain ⟨s, hs⟩ : ∃ s, s = wordsL (q + 1) kb := ⟨_, rfl⟩
  have hsl : s.length = q + 1 := by rw [hs, wordsL_len]
  have hsL : Lets s := by rw [hs]; exact wordsL_lets _ _
  have hlen : (insC cs at_ s hd).length ≤ cs.length + 48 := by rw [insC_len]; omega
  rw [← hN] at hlen
  have hrow : RowOk (H + 1) (insC cs at_ s hd) := hr.ins hsL.rns (by omega)
  have bq : (q : Int) < 48 := by omega
  have R1 : ∀ W, Calls Tryd.prog 28 #[.int .i64 ka, .int .i64 ((N : Int) + 1)] W fun e w' => e = .returned (.int .i64 (at_ : Int)) ∧ Below W.heap.size W w' := fun W => by rw [← hat]; exact rest_b (by omega) (by omega) W
  have R2 : ∀ W : World, Calls Tryd.prog 28 #[.int .i64 kn, .int .i64 48] W fun e w' => e = .returned (.int .i64 (q : Int)) ∧ ∃ m, w' = W.drewN m := fun W => by
    refine (redraftlaw03_rest.calls kn 48 _ W (rest_is (by decide) (by decide))).mono ?_
    rintro e w' ⟨he, ⟨nd, hw⟩⟩
    rw [hq] at he
    exact ⟨he, nd, hw⟩
  have R3 : ∀ W, Calls Tryd.prog 28 #[.int .i64 kb, .int .i64 3] W fun e w' => e = .returned (.int .i64 hd) ∧ Below W.heap.size W w' := fun W => by rw [← hhd]; exact rest_b (by omega) (by omega) W
  have R4 : ∀ W : World, Calls Tryd.prog 29 #[.int .i64 (1 + (q : Int)), .int .i64 kb] W fun e w' => e = .returned (.string (txt s)) ∧ ∃ m, w' = W.drewN m := fun W => by
    rw [hs, show 1 + (q : Int) = ((q + 1 : Nat) : Int) by omega]
    refine (words_calls (q + 1) kb (by omega) W).mono ?_
    rintro e w' ⟨he, ⟨nd, hw⟩⟩
    exact ⟨he, nd, hw⟩
  have I1 : ∀ W, RopeHas W b cs → BarsAt W → Calls Tryd.prog 33 #[.pointer (some ⟨b, 0, none⟩), .int .i64 (at_ : Int), .string (txt s), .int .i64 hd] W fun e w' => e = .returned (.int .i64 0) ∧ RopeHas w' b (insC cs at_ s hd) ∧ W.grownBy w' (some b) := fun W h hw => rope_insert h hw hatN hsL (fun e => by rw [e] at hsl; simp at hsl) (by omega) (by omega)
  have I2 : ∀ W, Row (fun k => k = b) W A c cs → Calls Tryd.prog 52 #[.slice A N c, .int .i64 (at_ : Int), .string (txt s), .int .i64 hd] W fun e w' => ∃ A' c', e = .returned (.slice A' (insC cs at_ s hd).length c') ∧ Kd.R k36 36 w' W.heap.size (fun b => W.heap.size ≤ b) (.slice A' (insC cs at_ s hd).length c') (sCells (insC cs at_ s hd)) ∧ Below W.heap.size W w' := fun W h => by rw [hN]; exact put_calls hatN (by omega) hsL h.rd h.cap
  replace R1 := Lib.hid R1
  replace R2 := Lib.hid R2
  replace R3 := Lib.hid R3
  replace R4 := Lib.hid R4
  replace I1 := Lib.hid I1
  replace I2 := Lib.hid I2
  obtain ⟨st, hst⟩ : ∃ st, st = txt s := ⟨_, rfl⟩
  rw [← hst] at R4 I1 I2
  have hact : actC cs 0 ka kb kn = insC cs at_ s hd := by
    rw [actC, if_pos rfl, ← hN, hat, Int.toNat_natCast, hq, Int.toNat_natCast, hhd, ← hs]
  rw [hact]
  obtain ⟨cs', hcs'⟩ : ∃ cs', cs' = insC cs at_ s hd := ⟨_, rfl⟩
  rw [← hcs']
  rw [← hcs'] at I1 I2 hlen hrow
  have HLEN := Lib.hid hlen
  have HROW := Lib.hid hrow
  have hbx : (W.alloc (.cells #[.int .i64 0, .int .i64 ka, .int .i64 kb, .int .i64 kn] 44)).heap[W.heap.size]? = some (Obj.cells #[.int .i64 0, .int .i64 ka, .int .i64 kb, .int .i64 kn] 44 (0, 0)) := heap_new _ _
  have S1 := S.step (below_alloc (Below.refl _ W) (.cells #[.int .i64 0, .int .i64 ka, .int .i64 kb, .int .i64 kn] 44))
  rw [← hN]
  clear hact hat hq hhd hs hsl hsL hatN hq48 hlen hrow hr hH hl hst hcs' S hN
  go_enter Tryd.func27, Tryd.ntmps27
  go_wp2_with (go_at_call 28; refine (R1.out _).mono ?_; clear R1; rintro e w2 ⟨rfl, hb2⟩)
  have hbx2 := (hb2.block _ (new_lt hbx)).trans hbx
  have S2 := S1.step hb2
  obtain ⟨x0, x1, x2, x3⟩ := cells4k hbx2
  clear hbx hb2 S1
  go_quiet (first
      | (go_at_call 28; exact Calls.quiet_of (R2.out _))
      | (go_at_call 29; exact Calls.quiet_of (R4.out _)))
  have S3 := S2.step (pw_below_drewN (Below.refl _ w2) nq)
  go_wp2_with (first
    | (go_at_call 28; refine (R3.out _).mono ?_; clear R3; rintro e w5 ⟨rfl, hb5⟩; have S5 := S3.step hb5)
    | (go_at_call 33; refine (I1.out w5 S5.rope S5.bars).mono ?_; clear I1; rintro e w6 ⟨rfl, hro, hg⟩; have S6 := S5.put hg hro)
    | (go_at_call 52; refine (I2.out w6 S6.row).mono ?_; clear I2; rintro e w7 ⟨A', c', rfl, hR7, hb7⟩))
  go_ret2
  exact ⟨A', c', rfl, (S6.row' hb7 hR7).1, (S6.row' hb7 hR7).2, HROW.out, HLEN.out⟩
set_option maxRecDepth 100000 in
set_option maxHeartbeats 16000000 in
theorem actsD_up {w W : World} {b : Nat} {A : Option Addr} {c : Nat} {cs : List (Int × Int)} {H : Int} (S : Sta w W b A c cs cs) (hr : RowOk H cs) (hH : 2 ≤ H ∧ H ≤ 1000) (hl : cs.length ≤ 20000) (ka kb kn : Int) :
    Calls Tryd.prog 27 #[.pointer (some ⟨b, 0, none⟩), .slice A cs.length c, .agg #[.int .i64 1, .int .i64 ka, .int .i64 kb, .int .i64 kn]] W fun e w' => ∃ A' c', e = .returned (.tuple #[.slice A' (actC cs 1 ka kb kn).length c', .bool true]) ∧ Sta w w' b A' c' (actC cs 1 ka kb kn) (actC cs 1 ka kb kn) ∧ Row (fun k => k < w.heap.size) w' A' c' (actC cs 1 ka kb kn) ∧ RowOk (H + 1) (actC cs 1 ka kb kn) ∧ (actC cs 1 ka kb kn).length ≤ cs.length + 48 := by
  have hact : actC cs 1 ka kb kn = bumpC cs (choL cs ka kb false) 1 := by rw [actC, if_neg (by decide), if_pos rfl]
  rw [hact]
  clear hact
  obtain ⟨k, hk, hN, hdn⟩ := choL_is cs (by omega) ka kb false
  obtain ⟨l, hl_⟩ : ∃ l, l = choL cs ka kb false := ⟨_, rfl⟩
  rw [← hl_] at hk hN hdn ⊢
  clear hl_
  have hok : BumpOk cs l 1 := by
    intro r hr' d hd
    have h1 := hr.h d (List.mem_of_mem_take (List.mem_of_mem_drop hd))
    have h2 := fun h => hdn h r hr' d hd
    omega
  have hlen : (bumpC cs l 1).length = cs.length := bumpC_len hN
  have hrow : RowOk (H + 1) (bumpC cs l 1) := hr.bump hN hok (by decide)
  obtain ⟨kb', hkb⟩ := bumped_is hN (by omega) hok
  have hll := hN.len
  have B1 : ∀ W A' c', RopeHas W b cs → Kd.C k133 W A' l.length (sRng l) → l.length ≤ c' → Calls Tryd.prog 39 #[.pointer (some ⟨b, 0, none⟩), .slice A' l.length c', .int .i64 1] W fun e w' => e = .returned (.int .i64 0) ∧ RopeHas w' b (bumpC cs l 1) ∧ W.grownBy w' (some b) := fun W A' c' h h2 h3 => rope_bump h (.inl rfl) hN hok (by omega) h2 h3
  have C1 : ∀ W, Row (fun k => k = b) W A c cs → Calls Tryd.prog 68 #[.slice A cs.length c, .int .i64 ka, .int .i64 kb, .bool false] W fun e w' => ∃ A' c', e = .returned (.slice A' l.length c') ∧ Kd.R k133 133 w' W.heap.size (fun _ => True) (.slice A' l.length c') (sRng l) ∧ Below W.heap.size W w' := fun W h => by
    have h1 := h.rd
    have h2 := h.cap
    rw [← sCells_len cs] at h1 h2 ⊢
    refine (redraftlaw03_chosen.calls k A c (sCells cs) ka kb false (sRng l) W h1 h2 hk).mono ?_
    rintro e w' ⟨v, he, hR, hb⟩
    obtain ⟨A', c', hv⟩ := Kd.R_slice hR
    rw [sRng_len] at hv
    subst hv
    exact ⟨A', c', he, hR, hb⟩
  have C2 : ∀ W A' c', Row (fun k => k = b) W A c cs → Kd.C k133 W A' l.length (sRng l) → l.length ≤ c' → Calls Tryd.prog 50 #[.slice A cs.length c, .slice A' l.length c', .int .i64 1] W fun e w' => ∃ A' c', e = .returned (.slice A' (bumpC cs l 1).length c') ∧ Kd.R k36 36 w' W.heap.size (fun _ => True) (.slice A' (bumpC cs l 1).length c') (sCells (bumpC cs l 1)) ∧ Below W.heap.size W w' := fun W A' c' h h3 h4 => by
    have h1 := h.rd
    have h2 := h.cap
    rw [← sCells_len cs] at h1 h2 ⊢
    rw [← sRng_len l] at h3 h4 ⊢
    refine (redraftlaw03_bumped.calls kb' A c (sCells cs) A' c' (sRng l) 1 (sCells (bumpC cs l 1)) W h1 h2 h3 h4 hkb).mono ?_
    rintro e w' ⟨v, he, hR, hb⟩
    obtain ⟨A', c', hv⟩ := Kd.R_slice hR
    rw [sCells_len] at hv
    subst hv
    exact ⟨A', c', he, hR, hb⟩
  replace B1 := Lib.hid B1
  replace C1 := Lib.hid C1
  replace C2 := Lib.hid C2
  obtain ⟨cs', hcs'⟩ : ∃ cs', cs' = bumpC cs l 1 := ⟨_, rfl⟩
  rw [← hcs']
  rw [← hcs'] at B1 C2 hlen hrow
  have HLEN := Lib.hid hlen
  have HROW := Lib.hid hrow
  have HLL := Lib.hid hll
  have hbx : (W.alloc (.cells #[.int .i64 1, .int .i64 ka, .int .i64 kb, .int .i64 kn] 44)).heap[W.heap.size]? = some (Obj.cells #[.int .i64 1, .int .i64 ka, .int .i64 kb, .int .i64 kn] 44 (0, 0)) := heap_new _ _
  have S1 := S.step (below_alloc (Below.refl _ W) (.cells #[.int .i64 1, .int .i64 ka, .int .i64 kb, .int .i64 kn] 44))
  clear hk hN hdn hok hlen hrow hkb hll hr hH hl hcs' S
  go_enter Tryd.func27, Tryd.ntmps27
  go_wp2_with (first
    | (go_at_call 68; refine (C1.out _ S1.row).mono ?_; clear C1; rintro e w2 ⟨A2, c2, rfl, hR2, hb2⟩; have S2 := S1.step hb2; have hC2 : Kd.C k133 w2 A2 l.length (sRng l) := (by have := (Kd.R_reads' hR2).2.2; rwa [sRng_len] at this); have hc2 := (Kd.R_reads' hR2).2.1; have HL0 : Hid ((([] : List S133).length + l.length) * 16 ≤ 140737488355328) := Lib.hid (by have := HLL.out; simp only [List.length_nil]; omega))
    | ((with_reducible refine gate_builtin (b := .append) (xs := #[.const (.slice none 0 0), .tmp 58]) rfl ?_); at_builtin; refine Kd.R_append_rows k133 (w0 := w2) w2.heap.size rfl (.const (.slice none 0 0)) (.tmp 58) 61 133 (.agg #[.int .i64 0, .int .i64 0]) 16 rfl Tryd.underlying61 info133 rfl (by decide) (by decide) _ ([] : List S133) (sRng l) _ _ _ (fun b => w2.heap.size ≤ b) (fun _ => False) rfl rfl (Kd.R_nil _ _ _ _ _) hC2 (fun _ _ h => h) (fun _ h => h.elim) (fun _ h => h) (Below.refl _ _) (Nat.le_refl _) HL0.out ?_; intro v3 w3 hR3 hB3 hg3 hat3; clear hg3 hat3; rw [List.nil_append] at hR3; obtain ⟨A3, c3, hv3⟩ := Kd.R_slice hR3; rw [sRng_len] at hv3; subst hv3; have S3 := S2.step hB3; have hC3 : Kd.C k133 w3 A3 l.length (sRng l) := (by have := (Kd.R_reads' hR3).2.2; rwa [sRng_len] at this); have hc3 := (Kd.R_reads' hR3).2.1)
    | (go_at_call 39; refine (B1.out w3 A3 c3 S3.rope hC3 hc3).mono ?_; clear B1; rintro e w4 ⟨rfl, hro, hg⟩; have S4 := S3.put hg hro; have hlt := S1.rope.lt; have hR4 := Kd.R_step (w1 := w4) (Kd.R_mono (Kd.R_bound (Kd.R_below hR2 hB3)) (fun k hk => hk.2.1)) (fun k hk hl => hg.block k hl (fun e => by injection e with e; omega)); have hC4 : Kd.C k133 w4 A2 l.length (sRng l) := (by have := (Kd.R_reads' hR4).2.2; rwa [sRng_len] at this))
    | (go_at_call 50; refine (C2.out w4 A2 c2 S4.row hC4 hc2).mono ?_; clear C2; rintro e w5 ⟨A', c', rfl, hR5, hb5⟩))
  go_ret2
  exact ⟨A', c', rfl, (S4.row' hb5 hR5).1, (S4.row' hb5 hR5).2, HROW.out, by have := HLEN.out; omega⟩
set_option maxRecDepth 100000 in
set_option maxHeartbeats 16000000 in
theorem actsD_down {w W : World} {b : Nat} {A : Option Addr} {c : Nat} {cs : List (Int × Int)} {H : Int} (S : Sta w W b A c cs cs) (hr : RowOk H cs) (hH : 2 ≤ H ∧ H ≤ 1000) (hl : cs.length ≤ 20000) (kd ka kb kn : Int) (h0 : kd ≠ 0) (h1 : kd ≠ 1) :
    Calls Tryd.prog 27 #[.pointer (some ⟨b, 0, none⟩), .slice A cs.length c, .agg #[.int .i64 kd, .int .i64 ka, .int .i64 kb, .int .i64 kn]] W fun e w' => ∃ A' c', e = .returned (.tuple #[.slice A' (actC cs kd ka kb kn).length c', .bool true]) ∧ Sta w w' b A' c' (actC cs kd ka kb kn) (actC cs kd ka kb kn) ∧ Row (fun k => k < w.heap.size) w' A' c' (actC cs kd ka kb kn) ∧ RowOk (H + 1) (actC cs kd ka kb kn) ∧ (actC cs kd ka kb kn).length ≤ cs.length + 48 := by
  have hact : actC cs kd ka kb kn = bumpC cs (choL cs ka kb true) (-1) := by rw [actC, if_neg h0, if_neg h1]
  rw [hact]
  clear hact
  obtain ⟨k, hk, hN, hdn⟩ := choL_is cs (by omega) ka kb true
  obtain ⟨l, hl_⟩ : ∃ l, l = choL cs ka kb true := ⟨_, rfl⟩
  rw [← hl_] at hk hN hdn ⊢
  clear hl_
  have hok : BumpOk cs l (-1) := by
    intro r hr' d hd
    have h1 := hr.h d (List.mem_of_mem_take (List.mem_of_mem_drop hd))
    have h2 := fun h => hdn h r hr' d hd
    have h3 := h2 rfl
    omega
  have hlen : (bumpC cs l (-1)).length = cs.length := bumpC_len hN
  have hrow : RowOk (H + 1) (bumpC cs l (-1)) := hr.bump hN hok (by decide)
  obtain ⟨kb', hkb⟩ := bumped_is hN (by omega) hok
  have hll := hN.len
  have B1 : ∀ W A' c', RopeHas W b cs → Kd.C k133 W A' l.length (sRng l) → l.length ≤ c' → Calls Tryd.prog 39 #[.pointer (some ⟨b, 0, none⟩), .slice A' l.length c', .int .i64 (-1)] W fun e w' => e = .returned (.int .i64 0) ∧ RopeHas w' b (bumpC cs l (-1)) ∧ W.grownBy w' (some b) := fun W A' c' h h2 h3 => rope_bump h (.inr rfl) hN hok (by omega) h2 h3
  have C1 : ∀ W, Row (fun k => k = b) W A c cs → Calls Tryd.prog 68 #[.slice A cs.length c, .int .i64 ka, .int .i64 kb, .bool true] W fun e w' => ∃ A' c', e = .returned (.slice A' l.length c') ∧ Kd.R k133 133 w' W.heap.size (fun _ => True) (.slice A' l.length c') (sRng l) ∧ Below W.heap.size W w' := fun W h => by
    have h1 := h.rd
    have h2 := h.cap
    rw [← sCells_len cs] at h1 h2 ⊢
    refine (redraftlaw03_chosen.calls k A c (sCells cs) ka kb true (sRng l) W h1 h2 hk).mono ?_
    rintro e w' ⟨v, he, hR, hb⟩
    obtain ⟨A', c', hv⟩ := Kd.R_slice hR
    rw [sRng_len] at hv
    subst hv
    exact ⟨A', c', he, hR, hb⟩
  have C2 : ∀ W A' c', Row (fun k => k = b) W A c cs → Kd.C k133 W A' l.length (sRng l) → l.length ≤ c' → Calls Tryd.prog 50 #[.slice A cs.length c, .slice A' l.length c', .int .i64 (-1)] W fun e w' => ∃ A' c', e = .returned (.slice A' (bumpC cs l (-1)).length c') ∧ Kd.R k36 36 w' W.heap.size (fun _ => True) (.slice A' (bumpC cs l (-1)).length c') (sCells (bumpC cs l (-1))) ∧ Below W.heap.size W w' := fun W A' c' h h3 h4 => by
    have h1 := h.rd
    have h2 := h.cap
    rw [← sCells_len cs] at h1 h2 ⊢
    rw [← sRng_len l] at h3 h4 ⊢
    refine (redraftlaw03_bumped.calls kb' A c (sCells cs) A' c' (sRng l) (-1) (sCells (bumpC cs l (-1))) W h1 h2 h3 h4 hkb).mono ?_
    rintro e w' ⟨v, he, hR, hb⟩
    obtain ⟨A', c', hv⟩ := Kd.R_slice hR
    rw [sCells_len] at hv
    subst hv
    exact ⟨A', c', he, hR, hb⟩
  replace B1 := Lib.hid B1
  replace C1 := Lib.hid C1
  replace C2 := Lib.hid C2
  obtain ⟨cs', hcs'⟩ : ∃ cs', cs' = bumpC cs l (-1) := ⟨_, rfl⟩
  rw [← hcs']
  rw [← hcs'] at B1 C2 hlen hrow
  have HLEN := Lib.hid hlen
  have HROW := Lib.hid hrow
  have HLL := Lib.hid hll
  have hbx : (W.alloc (.cells #[.int .i64 kd, .int .i64 ka, .int .i64 kb, .int .i64 kn] 44)).heap[W.heap.size]? = some (Obj.cells #[.int .i64 kd, .int .i64 ka, .int .i64 kb, .int .i64 kn] 44 (0, 0)) := heap_new _ _
  have S1 := S.step (below_alloc (Below.refl _ W) (.cells #[.int .i64 kd, .int .i64 ka, .int .i64 kb, .int .i64 kn] 44))
  have d0 : (kd == 0) = false := beq_eq_false_iff_ne.mpr h0
  have d1 : (kd == 1) = false := beq_eq_false_iff_ne.mpr h1
  clear h0 h1
  clear hk hN hdn hok hlen hrow hkb hll hr hH hl hcs' S
  go_enter Tryd.func27, Tryd.ntmps27
  go_wp2_with (first
    | (go_at_call 68; refine (C1.out _ S1.row).mono ?_; clear C1; rintro e w2 ⟨A2, c2, rfl, hR2, hb2⟩; have S2 := S1.step hb2; have hC2 : Kd.C k133 w2 A2 l.length (sRng l) := (by have := (Kd.R_reads' hR2).2.2; rwa [sRng_len] at this); have hc2 := (Kd.R_reads' hR2).2.1; have HL0 : Hid ((([] : List S133).length + l.length) * 16 ≤ 140737488355328) := Lib.hid (by have := HLL.out; simp only [List.length_nil]; omega))
    | ((with_reducible refine gate_builtin (b := .append) (xs := #[.const (.slice none 0 0), .tmp 58]) rfl ?_); at_builtin; refine Kd.R_append_rows k133 (w0 := w2) w2.heap.size rfl (.const (.slice none 0 0)) (.tmp 58) 61 133 (.agg #[.int .i64 0, .int .i64 0]) 16 rfl Tryd.underlying61 info133 rfl (by decide) (by decide) _ ([] : List S133) (sRng l) _ _ _ (fun b => w2.heap.size ≤ b) (fun _ => False) rfl rfl (Kd.R_nil _ _ _ _ _) hC2 (fun _ _ h => h) (fun _ h => h.elim) (fun _ h => h) (Below.refl _ _) (Nat.le_refl _) HL0.out ?_; intro v3 w3 hR3 hB3 hg3 hat3; clear hg3 hat3; rw [List.nil_append] at hR3; obtain ⟨A3, c3, hv3⟩ := Kd.R_slice hR3; rw [sRng_len] at hv3; subst hv3; have S3 := S2.step hB3; have hC3 : Kd.C k133 w3 A3 l.length (sRng l) := (by have := (Kd.R_reads' hR3).2.2; rwa [sRng_len] at this); have hc3 := (Kd.R_reads' hR3).2.1)
    | (go_at_call 39; refine (B1.out w3 A3 c3 S3.rope hC3 hc3).mono ?_; clear B1; rintro e w4 ⟨rfl, hro, hg⟩; have S4 := S3.put hg hro; have hlt := S1.rope.lt; have hR4 := Kd.R_step (w1 := w4) (Kd.R_mono (Kd.R_bound (Kd.R_below hR2 hB3)) (fun k hk => hk.2.1)) (fun k hk hl => hg.block k hl (fun e => by injection e with e; omega)); have hC4 : Kd.C k133 w4 A2 l.length (sRng l) := (by have := (Kd.R_reads' hR4).2.2; rwa [sRng_len] at this))
    | (go_at_call 50; refine (C2.out w4 A2 c2 S4.row hC4 hc2).mono ?_; clear C2; rintro e w5 ⟨A', c', rfl, hR5, hb5⟩))
  go_ret2
  exact ⟨A', c', rfl, (S4.row' hb5 hR5).1, (S4.row' hb5 hR5).2, HROW.out, by have := HLEN.out; omega⟩
theorem actsD_calls {w W : World} {b : Nat} {A : Option Addr} {c : Nat} {cs : List (Int × Int)} {H : Int} (S : Sta w W b A c cs cs) (hr : RowOk H cs) (hH : 2 ≤ H ∧ H ≤ 1000) (hl : cs.length ≤ 20000) (kd ka kb kn : Int) :
    Calls Tryd.prog 27 #[.pointer (some ⟨b, 0, none⟩), .slice A cs.length c, .agg #[.int .i64 kd, .int .i64 ka, .int .i64 kb, .int .i64 kn]] W fun e w' => ∃ A' c', e = .returned (.tuple #[.slice A' (actC cs kd ka kb kn).length c', .bool true]) ∧ Sta w w' b A' c' (actC cs kd ka kb kn) (actC cs kd ka kb kn) ∧ Row (fun k => k < w.heap.size) w' A' c' (actC cs kd ka kb kn) ∧ RowOk (H + 1) (actC cs kd ka kb kn) ∧ (actC cs kd ka kb kn).length ≤ cs.length + 48 := by
  by_cases h0 : kd = 0
  · subst h0; exact actsD_put S hr hH.1 hl ka kb kn
  · by_cases h1 : kd = 1
    · subst h1; exact actsD_up S hr hH hl ka kb kn
    · exact actsD_down S hr hH hl kd ka kb kn h0 h1
end Go.Proofs.YteeigokkafcaaaaDoorRope.P2
end
section
namespace Go.Proofs.YteeigokkafcaaaaDoorRope.P2
open Go.RowKit Go.Proofs.YteeigokkafcaaaaDoorW.PrintWords Go.Proofs.YteeigokkafcaaaaDoorW.PrintMore Go.Proofs.YteeigokkafcaaaaDoorRope Go.Proofs.YteeigokkafcaaaaDoor.Pr
set_option linter.unusedSimpArgs false
set_option linter.unusedVariables false
theorem digits_l0 : ∀ n : Nat, ∃ d : Nat, d ≤ n ∧ n < 2 ^ d ∧ (0 < d → 2 ^ (d - 1) ≤ n) ∧ ∀ (k j : Nat), j + n ≤ 1073741824 → d < k → redraftlaw03_digits.l0 k (n : Int) (j : Int) = some ((j + d : Nat) : Int) := by
  intro n
  induction n using Nat.strongRecOn with
  | _ n ih =>
    by_cases h0 : n = 0
    · subst h0
      refine ⟨0, Nat.le_refl _, by decide, fun h => absurd h (by decide), fun k j _ hk => ?_⟩
      obtain ⟨k', rfl⟩ : ∃ k', k = k' + 1 := ⟨k - 1, by omega⟩
      rw [redraftlaw03_digits.l0, if_neg (by decide)]
      rfl
    · obtain ⟨d, h1, h2, h3, h4⟩ := ih (n / 2) (by omega)
      refine ⟨d + 1, by omega, by rw [Nat.pow_succ]; omega, fun _ => ?_, fun k j hj hk => ?_⟩
      · rw [Nat.add_sub_cancel]
        rcases Nat.eq_zero_or_pos d with rfl | hd
        · show 1 ≤ n; omega
        · have := h3 hd
          have e : 2 ^ d = 2 ^ (d - 1) * 2 := by rw [← Nat.pow_succ]; congr 1; omega
          omega
      · obtain ⟨k', rfl⟩ : ∃ k', k = k' + 1 := ⟨k - 1, by omega⟩
        have e1 : wrap64 (Int.tdiv (n : Int) 2) = ((n / 2 : Nat) : Int) := by
          rw [show (2 : Int) = ((2 : Nat) : Int) from rfl, tdiv_nat]
          exact w64 (by omega) (by omega)
        have e2 : wrap64 ((j : Int) + 1) = ((j + 1 : Nat) : Int) := by rw [w64 (by omega) (by omega)]; omega
        rw [redraftlaw03_digits.l0, if_pos (show (n : Int) > 0 by omega), e1, e2, h4 k' (j + 1) (by omega) (by omega)]
        congr 2
        omega
theorem digits_c (n : Nat) (hn : n ≤ 1073741824) : ∃ d : Nat, d ≤ n ∧ n < 2 ^ d ∧ (0 < d → 2 ^ (d - 1) ≤ n) ∧ ∀ W : World, Calls Tryd.prog 25 #[.int .i64 (n : Int)] W fun e w' => e = .returned (.int .i64 (d : Int)) ∧ Below W.heap.size W w' := by
  obtain ⟨d, h1, h2, h3, h4⟩ := digits_l0 n
  refine ⟨d, h1, h2, h3, fun W => ?_⟩
  have h5 := h4 (d + 1) 0 (by omega) (by omega)
  rw [Nat.zero_add] at h5
  exact (redraftlaw03_digits.calls (d + 1) n d W h5).mono fun e w' ⟨he, hd⟩ => ⟨he, hd.below⟩
structure Stand (w W : World) (b : Nat) (A : Option Addr) (c : Nat) (cs cs' : List (Int × Int)) : Prop where
  bel : Below w.heap.size w W
  bars : BarsAt W
  row : Row (fun k => k = b) W A c cs
  rope : RopeHas W b cs'
  lb : w.heap.size ≤ b
  nz : b ≠ 0
section
variable {w W W' : World} {b : Nat} {A A' : Option Addr} {c c' : Nat} {cs cs' cs'' ds ds' : List (Int × Int)}
theorem Stand.step (h : Stand w W b A c cs cs') (hb : Below W.heap.size W W') : Stand w W' b A c cs cs' :=
  ⟨h.bel.trans (hb.mono h.bel.size), h.bars.below hb, h.row.below hb, h.rope.below hb, h.lb, h.nz⟩
theorem Stand.sta (S : Stand w W b A c cs cs') : Sta W W b A c cs cs' := ⟨grownBy_refl _ _, S.bars, S.row, S.rope, S.nz⟩
theorem Stand.act (S : Stand w W b A c cs cs') (T : Sta W W' b A' c' ds ds') : Stand w W' b A' c' ds ds' :=
  ⟨below_grown S.bel T.gr S.lb S.bel.size, T.bars, T.row, T.rope, S.lb, S.nz⟩
end
theorem up_ok {H H' : Int} {cs : List (Int × Int)} (h : RowOk H cs) (hh : H ≤ H') : RowOk H' cs := ⟨h.rn, fun c hc => by have := h.h c hc; omega⟩
theorem len_le_plen : ∀ {x : Pcl}, (∀ p ∈ x, p.1 ≠ []) → x.length ≤ plen x
  | [], _ => Nat.le_refl _
  | p :: x, h => by
    have := len_le_plen (fun q hq => h q (List.mem_cons_of_mem _ hq))
    have := List.length_pos_iff.2 (h p List.mem_cons_self)
    rw [plen_cons, List.length_cons]
    omega
theorem few_len0 {L : List (List Int × Int)} (h : Few L) : L.length = 0 ↔ (rcells L).length = 0 := by
  cases L with
  | nil => simp [rcells]
  | cons x t =>
    have := List.length_pos_iff.2 (h.one x List.mem_cons_self)
    rw [rcells_cons, List.length_append, List.length_map]
    simp only [List.length_cons]
    omega
set_option maxRecDepth 100000 in
set_option maxHeartbeats 64000000 in
theorem kept_calls {ps : List (Int × Int)} {sc : List (Int × Int × Int × Int)} {w : World} {A B : Option Addr} {c d : Nat} (hA : Kd.C k97 w A ps.length ps) (hc : ps.length ≤ c) (hm : ps.length ≤ 140737488355328) (hSc : Kd.C k44 w B sc.length sc) (hsm : sc.length ≤ 140737488355328) (hw : BarsAt w) :
    Calls Tryd.prog 4 #[.slice A ps.length c, .slice B sc.length d] w fun e w' => e = .returned (.bool true) ∧ Below w.heap.size w w' := by
  have hok := rcells_ok ps
  have hcl := runsL_cells ps
  have hruns := fun (W : World) (h : Kd.C k97 W A ps.length ps) => runs_c h hc hm
  have hrow := fun (W : World) (A : Option Addr) (c : Nat) (h : Kd.C k58 W A (runsL ps).length (sRuns (runsL ps))) => row_c (c := c) h
  have hfrom := fun (W : World) (A : Option Addr) (c : Nat) (hw : BarsAt W) (h : Kd.C k58 W A (runsL ps).length (sRuns (runsL ps))) (hc : (runsL ps).length ≤ c) => from_c hw h hc
  obtain ⟨cs, hcs⟩ : ∃ cs, cs = rcells (runsL ps) := ⟨_, rfl⟩
  rw [← hcs] at hok hcl hrow hfrom
  obtain ⟨l, hl⟩ : ∃ l, l = runsL ps := ⟨_, rfl⟩
  rw [← hl] at hruns hrow hfrom hcs
  have HR := Lib.hid hruns
  have HW := Lib.hid hrow
  have HF := Lib.hid hfrom
  have HOK := Lib.hid hok
  have HCL := Lib.hid hcl
  have sb : (sc.length : Int) ≤ 140737488355328 := by omega
  clear hruns hrow hfrom hl hcs hc hm hok hcl hsm
  go_enter Tryd.func4, Tryd.ntmps4
  go_wp2_with (first
    | (go_at_call 15; refine (HR.out w hA).mono ?_; rintro e w1 ⟨A1, c1, rfl, hC1, hc1, hb1⟩)
    | (go_at_call 16; refine (HW.out w1 A1 c1 hC1).mono ?_; clear HW; rintro e w2 ⟨A2, c2, rfl, hR2, hb2⟩)
    | (go_at_call 18; refine (HF.out w2 A1 c1 ((hw.below hb1).below hb2) (Kd.C_below hC1 hb2) hc1).mono ?_; clear HF; rintro e w3 ⟨b, rfl, hlb, hnz, hro, hb3⟩; have S5 : Stand w1 w3 b A2 c2 cs cs := ⟨hb2.trans (hb3.mono hb2.size), ((hw.below hb1).below hb2).below hb3, (hR2.below hb3).less (fun k hk => by rw [hk]; exact hlb), hro, Nat.le_trans hb2.size hlb, hnz⟩))
  have hSc1 := Kd.C_below hSc hb1
  clear hb2 hR2 hb3 hro hlb hnz hA HR hSc hC1
  go_loopw [6, 9, 10] (fun v6 v9 v10 wr => ∃ (i : Nat) (A' : Option Addr) (c' : Nat) (cs' : List (Int × Int)), i ≤ 25 ∧ v6 = .slice A' cs'.length c' ∧ v9 = .bool true ∧ v10 = .int .i64 (i : Int) ∧ Stand w1 wr b A' c' cs' cs' ∧ RowOk (2 + (i : Int)) cs' ∧ cs'.length ≤ 1152 + 48 * i) (fun _ _ v10 _ => 25 - (intOf v10).toNat)
  case atStart => exact ⟨0, A2, c2, cs, Nat.zero_le _, rfl, rfl, rfl, S5, HOK.out, HCL.out⟩
  case round =>
    obtain ⟨i, A', c', cs', hi2, rfl, rfl, rfl, Sr, hok, hln⟩ := hrel
    have ib : (i : Int) ≤ 25 := by omega
    have HOKi := Lib.hid hok
    have HLN := Lib.hid hln
    have HI := Lib.hid hi2
    clear hok hln S5 HOK HCL hi2
    by_cases h1 : i ≤ sc.length
    · have d1 : decide (i ≤ sc.length) = true := decide_eq_true h1
      by_cases h2 : i ≤ 24
      · have d2 : decide ((i : Int) ≤ 24) = true := decide_eq_true (by omega)
        have H2 := Lib.hid h2
        have HLN2 : Hid (cs'.length ≤ 2400) := Lib.hid (by have := HLN.out; omega)
        have HOK2 : Hid (RowOk 27 cs') := Lib.hid (up_ok HOKi.out (by omega))
        obtain ⟨kk, hh, hK⟩ := Sr.rope.kept
        have hcnt := fun (L : List (List Int × Int)) (hL : Few L) (hc : rcells L = cs') => hK.count hL hc
        obtain ⟨m, hm⟩ : ∃ m, m = cs'.length / 16 := ⟨_, rfl⟩
        rw [← hm] at hcnt
        have HM := Lib.hid hm
        have hmq : wrap64 (Int.tdiv (cs'.length : Int) 16) = (m : Int) := by
          rw [show (16 : Int) = ((16 : Nat) : Int) from rfl, tdiv_nat, ← hm]
          exact w64 (by omega) (by have := HLN2.out; omega)
        have hmq2 : IntKind.i64.wrap (Int.tdiv (cs'.length : Int) 16) = (m : Int) := (IntWalk.i64_left _).trans hmq
        have mb : (m : Int) ≤ 2400 := by have := HLN2.out; omega
        have hkk : kk ≤ 1073741824 := by
          obtain ⟨K, t, h', hc, _, hs, _⟩ := hK
          have h3 : t.size ≤ t.cells.length := by
            obtain ⟨⟨v, _, ht⟩, _⟩ := h'
            have h4 := ht.good.pcs_ne
            have h5 := len_le_plen h4
            rw [Tree.plen_pcs, Tree.pcs_size] at h5
            exact h5
          rw [hc] at h3
          have := HLN2.out
          omega
        obtain ⟨dd, hd1, hd2, hd3, hDG⟩ := digits_c kk hkk
        obtain ⟨hl1, hl2⟩ := hK.levels hd2 hd3
        have HDG := Lib.hid hDG
        have HCNT := Lib.hid hcnt
        have kb : (kk : Int) ≤ 1073741824 := by omega
        have db : (dd : Int) ≤ 1073741824 := by omega
        have hb : (hh : Int) ≤ 2147483648 := by omega
        have q1 : decide (hh < dd) = false := decide_eq_false (by omega)
        have q2 : decide ((2 : Int) * (dd : Int) < (hh : Int)) = false := decide_eq_false (by omega)
        have q3 : (2 : Int) * (dd : Int) ≤ 2147483648 := by omega
        obtain ⟨β, hβ⟩ : ∃ β, (cs'.length == 0) = β := ⟨_, rfl⟩
        have hβ2 : ((cs'.length : Int) == 0) = β := by rw [← hβ, Bool.eq_iff_iff, beq_iff_eq, beq_iff_eq]; omega
        have HB := Lib.hid hβ
        have lc : (cs'.length : Int) ≤ 2400 := by have := HLN2.out; omega
        clear hcnt hm hkk hd1 hd2 hd3 hDG hl1 hl2 h1 h2 hβ
        by_cases h3 : i < sc.length
        · have d3 : decide (i < sc.length) = true := decide_eq_true h3
          by_cases h4 : i < 24
          · have d4 : decide ((i : Int) < 24) = true := decide_eq_true (by omega)
            have p0 : (0 ≤ (i : Int)) = True := eq_true (by omega)
            have p1 : ((i : Int) < (sc.length : Int)) = True := eq_true (by omega)
            have H4 := Lib.hid h4
            obtain ⟨ad, hAd, hq⟩ := at_T44 (Kd.C_below hSc1 Sr.bel) h3
            clear hq
            obtain ⟨⟨k0, k1, k2, k3⟩, hkk⟩ : ∃ x, sc[i] = x := ⟨_, rfl⟩
            have HX : Hid (∀ W, Below w1.heap.size w1 W → W.cell? (ad.add (i * 4)) = some (.int .i64 k0) ∧ W.cell? ⟨(ad.add (i * 4)).block, (ad.add (i * 4)).off + 1, none⟩ = some (.int .i64 k1) ∧ W.cell? ⟨(ad.add (i * 4)).block, (ad.add (i * 4)).off + 2, none⟩ = some (.int .i64 k2) ∧ W.cell? ⟨(ad.add (i * 4)).block, (ad.add (i * 4)).off + 3, none⟩ = some (.int .i64 k3)) := Lib.hid (fun W hW => by
              obtain ⟨ad', e', y0, y1, y2, y3⟩ := at_T44 (Kd.C_below hSc1 hW) h3
              rw [hAd] at e'
              injection e' with e'
              subst e'
              rw [hkk] at y0 y1 y2 y3
              exact ⟨y0, y1, y2, y3⟩)
            subst hAd
            clear hkk h3 h4
            go_wp2_with (first
              | (go_at_call 23; refine (rope_runs Sr.rope.plain (by have := HLN2.out; omega) HOK2.out.rn).mono ?_; rintro e w6 ⟨A6, c6, L, rfl, hR6, hfew, hrc, hb6⟩; have S6 := Sr.step hb6; have hK6 := hK.below hb6; clear hK; have hn := HCNT.out L hfew hrc; have h0 := few_len0 hfew; rw [hrc] at h0; have hβ3 : (L.length == 0) = β := (by rw [← HB.out, Bool.eq_iff_iff, beq_iff_eq, beq_iff_eq]; exact h0); have hβ4 : ((L.length : Int) == 0) = β := (by rw [← HB.out, Bool.eq_iff_iff, beq_iff_eq, beq_iff_eq]; omega); have q4 : decide (kk < L.length) = false := decide_eq_false (by omega); have q5 : decide ((L.length : Int) + (m : Int) < (kk : Int)) = false := decide_eq_false (by omega); have q6 : decide ((L.length : Int) + (cs'.length : Int) / 16 < (kk : Int)) = false := decide_eq_false (by have := HM.out; omega); have lb : (L.length : Int) ≤ 1073741824 := (by omega); clear hR6 hfew hrc hn h0)
              | (go_at_call 24; refine (rope_leaves hK6).mono ?_; rintro e w7 ⟨rfl, hb7⟩; have S7 := S6.step hb7; have hK7 := hK6.below hb7)
              | (go_at_call 25; refine (HDG.out w7).mono ?_; rintro e w8 ⟨rfl, hb8⟩; have S8 := S7.step hb8; have hK8 := hK7.below hb8)
              | (go_at_call 26; refine (rope_height hK8).mono ?_; rintro e w9 ⟨rfl, hb9⟩; have S9 := S8.step hb9; have hK9 := hK8.below hb9)
              | (go_at_call 19; refine (rope_total S9.rope.plain).mono ?_; rintro e w10 ⟨rfl, hb10⟩; have S10 := S9.step hb10; have hx := HX.out w10 S10.bel; obtain ⟨x0, x1, x2, x3⟩ := hx; clear S6 S7 S8 S9 hK6 hK7 hK8 hK9 hb6 hb7 hb8 hb9 hb10)
              | (go_at_call 27; refine (actsD_calls S10.sta HOKi.out (by have := HI.out; omega) (by have := HLN.out; have := HI.out; omega) k0 k1 k2 k3).mono ?_; rintro e w11 ⟨A5, c5, rfl, T5, _, hok5, hln5⟩; have S11 := S10.act T5))
            go_roundw
            case rel => exact ⟨i + 1, A5, c5, _, by have := H4.out; omega, rfl, rfl, by go_num, S11, up_ok hok5 (by omega), by have := HLN.out; omega⟩
            case measure => have := H4.out; simp [intOf]; omega
          · have d4 : decide ((i : Int) < 24) = false := decide_eq_false (by omega)
            clear h3 h4
            go_wp2_with (first
              | (go_at_call 23; refine (rope_runs Sr.rope.plain (by have := HLN2.out; omega) HOK2.out.rn).mono ?_; rintro e w6 ⟨A6, c6, L, rfl, hR6, hfew, hrc, hb6⟩; have S6 := Sr.step hb6; have hK6 := hK.below hb6; clear hK; have hn := HCNT.out L hfew hrc; have h0 := few_len0 hfew; rw [hrc] at h0; have hβ3 : (L.length == 0) = β := (by rw [← HB.out, Bool.eq_iff_iff, beq_iff_eq, beq_iff_eq]; exact h0); have hβ4 : ((L.length : Int) == 0) = β := (by rw [← HB.out, Bool.eq_iff_iff, beq_iff_eq, beq_iff_eq]; omega); have q4 : decide (kk < L.length) = false := decide_eq_false (by omega); have q5 : decide ((L.length : Int) + (m : Int) < (kk : Int)) = false := decide_eq_false (by omega); have q6 : decide ((L.length : Int) + (cs'.length : Int) / 16 < (kk : Int)) = false := decide_eq_false (by have := HM.out; omega); have lb : (L.length : Int) ≤ 1073741824 := (by omega); clear hR6 hfew hrc hn h0)
              | (go_at_call 24; refine (rope_leaves hK6).mono ?_; rintro e w7 ⟨rfl, hb7⟩; have S7 := S6.step hb7; have hK7 := hK6.below hb7)
              | (go_at_call 25; refine (HDG.out w7).mono ?_; rintro e w8 ⟨rfl, hb8⟩; have S8 := S7.step hb8; have hK8 := hK7.below hb8)
              | (go_at_call 26; refine (rope_height hK8).mono ?_; rintro e w9 ⟨rfl, hb9⟩; have S9 := S8.step hb9; have hK9 := hK8.below hb9)
              | (go_at_call 19; refine (rope_total S9.rope.plain).mono ?_; rintro e w10 ⟨rfl, hb10⟩; have S10 := S9.step hb10; clear S6 S7 S8 S9 hK6 hK7 hK8 hK9 hb6 hb7 hb8 hb9 hb10))
            go_roundw
            case rel => exact ⟨i + 1, A', c', cs', by have := H2.out; omega, rfl, rfl, by go_num, S10, up_ok HOKi.out (by omega), by have := HLN.out; omega⟩
            case measure => have := H2.out; simp [intOf]; omega
        · have d3 : decide (i < sc.length) = false := decide_eq_false h3
          clear h3
          go_wp2_with (first
            | (go_at_call 23; refine (rope_runs Sr.rope.plain (by have := HLN2.out; omega) HOK2.out.rn).mono ?_; rintro e w6 ⟨A6, c6, L, rfl, hR6, hfew, hrc, hb6⟩; have S6 := Sr.step hb6; have hK6 := hK.below hb6; clear hK; have hn := HCNT.out L hfew hrc; have h0 := few_len0 hfew; rw [hrc] at h0; have hβ3 : (L.length == 0) = β := (by rw [← HB.out, Bool.eq_iff_iff, beq_iff_eq, beq_iff_eq]; exact h0); have hβ4 : ((L.length : Int) == 0) = β := (by rw [← HB.out, Bool.eq_iff_iff, beq_iff_eq, beq_iff_eq]; omega); have q4 : decide (kk < L.length) = false := decide_eq_false (by omega); have q5 : decide ((L.length : Int) + (m : Int) < (kk : Int)) = false := decide_eq_false (by omega); have q6 : decide ((L.length : Int) + (cs'.length : Int) / 16 < (kk : Int)) = false := decide_eq_false (by have := HM.out; omega); have lb : (L.length : Int) ≤ 1073741824 := (by omega); clear hR6 hfew hrc hn h0)
            | (go_at_call 24; refine (rope_leaves hK6).mono ?_; rintro e w7 ⟨rfl, hb7⟩; have S7 := S6.step hb7; have hK7 := hK6.below hb7)
            | (go_at_call 25; refine (HDG.out w7).mono ?_; rintro e w8 ⟨rfl, hb8⟩; have S8 := S7.step hb8; have hK8 := hK7.below hb8)
            | (go_at_call 26; refine (rope_height hK8).mono ?_; rintro e w9 ⟨rfl, hb9⟩; have S9 := S8.step hb9; have hK9 := hK8.below hb9)
            | (go_at_call 19; refine (rope_total S9.rope.plain).mono ?_; rintro e w10 ⟨rfl, hb10⟩; have S10 := S9.step hb10; clear S6 S7 S8 S9 hK6 hK7 hK8 hK9 hb6 hb7 hb8 hb9 hb10))
          go_roundw
          case rel => exact ⟨i + 1, A', c', cs', by have := H2.out; omega, rfl, rfl, by go_num, S10, up_ok HOKi.out (by omega), by have := HLN.out; omega⟩
          case measure => have := H2.out; simp [intOf]; omega
      · have d2 : decide ((i : Int) ≤ 24) = false := decide_eq_false (by omega)
        clear h1 h2
        go_wp2
        go_ret
        exact ⟨rfl, hb1.trans (Sr.bel.mono hb1.size)⟩
    · have d1 : decide (i ≤ sc.length) = false := decide_eq_false h1
      clear h1
      go_wp2
      go_ret
      exact ⟨rfl, hb1.trans (Sr.bel.mono hb1.size)⟩
end Go.Proofs.YteeigokkafcaaaaDoorRope.P2
end
