/- SpanCarries, for every input: the law answers true and its argument reads as before; no condition. -/
import Derived.Test.YtmidiifgdloojaaClaimCarries4
section
namespace Go.Proofs.Ytmidiifgdloojaa.SpanFns
open Go.Proofs.Ytmidiifgdloojaa.Ku
open Go.RowKit Go.Proofs.YtmidiifgdloojaaW.PrintWords Go.Proofs.YtmidiifgdloojaaW.PrintMore Go.Proofs.Ytmidiifgdloojaa.Pr Go.Proofs.Ytmidiifgdloojaa.SpanMath Go.Proofs.Ytmidiifgdloojaa.SpanReads
theorem nogrow_of {l a b : List S36} (hl : Nrm l) (ha : Nrm a) (hb : Nrm b) {c n : Int} (h : ∀ q, mem l q → mem a q ∨ mem b q) (ga : grows a c n = false) (gb : grows b c n = false) : grows l c n = false := by
  rw [Bool.eq_false_iff, ne_eq, grows_iff hl]
  rintro ⟨r, hr, g1, g2⟩
  have hlt := hl.2 r hr
  rcases h (r.f1 - 1) ⟨r, hr, by omega, by omega⟩ with ⟨s, hs, s1, s2⟩ | ⟨s, hs, s1, s2⟩
  · have := (grows_iff ha c n).2 ⟨s, hs, by omega, by omega⟩
    rw [ga] at this
    cases this
  · have := (grows_iff hb c n).2 ⟨s, hs, by omega, by omega⟩
    rw [gb] at this
    cases this
theorem carry_union {a b : List S36} (ha : Nrm a) (hb : Nrm b) {c n : Int} (hn : 0 ≤ n) : throughS c n (unionS a b) = unionS (throughS c n a) (throughS c n b) := by
  obtain ⟨u1, u2⟩ := unionS_spec ha.ris hb.ris
  obtain ⟨a1, a2⟩ := throughS_spec (c := c) hn ha
  obtain ⟨b1, b2⟩ := throughS_spec (c := c) hn hb
  obtain ⟨t1, t2⟩ := throughS_spec (c := c) hn u1
  obtain ⟨v1, v2⟩ := unionS_spec a1.ris b1.ris
  refine nrm_ext t1 v1 (fun q => ?_)
  rw [t2, v2, a2, b2, u2, u2]
  by_cases h1 : q < c
  · have h2 : ¬ c + n ≤ q := by omega
    simp [h1, h2]
  · simp [h1]
    by_cases h2 : c + n ≤ q <;> simp [h2]
theorem carry_meet {a b : List S36} (ha : Nrm a) (hb : Nrm b) {c n : Int} (hn : 0 ≤ n) : throughS c n (meetS a b) = meetS (throughS c n a) (throughS c n b) := by
  obtain ⟨u1, u2⟩ := meetS_spec ha hb
  obtain ⟨a1, a2⟩ := throughS_spec (c := c) hn ha
  obtain ⟨b1, b2⟩ := throughS_spec (c := c) hn hb
  obtain ⟨t1, t2⟩ := throughS_spec (c := c) hn u1
  obtain ⟨v1, v2⟩ := meetS_spec a1 b1
  refine nrm_ext t1 v1 (fun q => ?_)
  rw [t2, v2, a2, b2, u2, u2]
  by_cases h1 : q < c
  · have h2 : ¬ c + n ≤ q := by omega
    simp [h1, h2]
  · simp [h1]
    by_cases h2 : c + n ≤ q <;> simp [h2]
theorem carry_minus {a b : List S36} (ha : Nrm a) (hb : Nrm b) {c n : Int} (hn : 0 ≤ n) : throughS c n (minusS a b) = minusS (throughS c n a) (throughS c n b) := by
  obtain ⟨u1, u2⟩ := minusS_spec ha hb
  obtain ⟨a1, a2⟩ := throughS_spec (c := c) hn ha
  obtain ⟨b1, b2⟩ := throughS_spec (c := c) hn hb
  obtain ⟨t1, t2⟩ := throughS_spec (c := c) hn u1
  obtain ⟨v1, v2⟩ := minusS_spec a1 b1
  refine nrm_ext t1 v1 (fun q => ?_)
  rw [t2, v2, a2, b2, u2, u2]
  by_cases h1 : q < c
  · have h2 : ¬ c + n ≤ q := by omega
    simp [h1, h2]
  · simp [h1]
    by_cases h2 : c + n ≤ q <;> simp [h2]
theorem refused_ev {a : List S36} (ha : Good a) (c n : Int) : Ev (fun k => redraftlaw02_refused.f k a c n (throughA a c n).2) true := by
  have la := ha.1
  unfold redraftlaw02_refused.f
  refine Ev.bind (refusal_ev ha c n) ?_
  unfold whyS throughA
  rw [if_pos (checkS_good.2 ha)]
  by_cases bad : badP c n
  · have bad2 := bad
    unfold badP at bad2
    simp only [if_pos bad, if_pos bad2, if_true]
    exact Ev.now _
  · have bad2 := bad
    unfold badP at bad2
    simp only [if_neg bad, if_neg bad2]
    by_cases g : grows a c n = true
    · simp only [if_pos g, if_true]
      exact Ev.now _
    · simp only [if_neg g, if_true]
      by_cases full : (throughS c n a).length ≤ 32768
      · simp only [few_ok full, if_true]
        exact Ev.now _
      · have := (through_len (c := c) (show 0 ≤ n from by omega) ha.nrm).1
        simp only [few_no full, show ¬ ((21 : Int) = 0) from by omega, if_false, if_pos (show (a.length : Int) = 32768 from by omega)]
        exact Ev.now _
theorem carries_j3 {x y z : List S36} (hx : Short x) (hy : Short y) (hz : Short z) : Ev (fun k => redraftlaw02_SpanCarries.j3 k x y z x 0 y 0 z 0 false) true := by
  refine Ev.step (f := fun k => (redraftlaw02_same.f k x x).bind fun t => if t = true then ((redraftlaw02_same.f k y y).bind fun u => if u = true then ((redraftlaw02_same.f k z z).bind fun v => some v) else some false) else some false) (fun k => by simp only [redraftlaw02_SpanCarries.j3]; rw [if_neg (by simp)]; simp only [num_f, Option.bind_some, if_true]) ?_
  refine Ev.bind (same_ev hx) ?_
  simp only [decide_true, if_true]
  refine Ev.bind (same_ev hy) ?_
  simp only [decide_true, if_true]
  refine Ev.bind (same_ev hz) ?_
  simpa using Ev.now true
theorem carries_j0 {a b : List S36} (ha : Good a) (hb : Good b) (c n : Int) : Ev (fun k => redraftlaw02_SpanCarries.j0 k c n a b false) true := by
  have la := ha.1
  have lb := hb.1
  have ew : wrap64 ((a.length : Int) + (b.length : Int)) = (a.length : Int) + b.length := w64 (by omega) (by omega)
  have yes : Ev (fun k => redraftlaw02_SpanCarries.j1 k c n a b (throughA a c n).1 (throughA a c n).2 (throughA b c n).1 (throughA b c n).2 true) true := by
    refine Ev.step (f := fun k => (redraftlaw02_refused.f k a c n (throughA a c n).2).bind fun t => if t = true then ((redraftlaw02_refused.f k b c n (throughA b c n).2).bind fun u => some u) else some false) (fun k => by simp only [redraftlaw02_SpanCarries.j1, if_true, num_f, Option.bind_some]) ?_
    refine Ev.bind (refused_ev ha c n) ?_
    simp only [if_true]
    exact Ev.bind (refused_ev hb c n) (Ev.now _)
  refine Ev.step (f := fun k => (span_Through.f k a c n).bind fun x => (span_Through.f k b c n).bind fun y => (redraftlaw02_refusal.f k a c n).bind fun t => if t = 0 then ((redraftlaw02_refusal.f k b c n).bind fun u => redraftlaw02_SpanCarries.j1 k c n a b x.1 x.2 y.1 y.2 (u != 0)) else redraftlaw02_SpanCarries.j1 k c n a b x.1 x.2 y.1 y.2 true) (fun k => by simp only [redraftlaw02_SpanCarries.j0]; rw [if_neg (by simp), copied_f ha.short, copied_f hb.short]; rfl) ?_
  refine Ev.bind (Through_ev ha.short c n) (Ev.bind (Through_ev hb.short c n) (Ev.bind (refusal_ev ha c n) ?_))
  by_cases wa : whyS a c n = 0
  · simp only [wa, if_true]
    refine Ev.bind (refusal_ev hb c n) ?_
    by_cases wb : whyS b c n = 0
    · rw [wb]
      simp only [bne_self_eq_false]
      have nb : ¬ badP c n := fun e => by unfold whyS at wa; rw [if_pos e] at wa; exact absurd wa (by omega)
      have ga : grows a c n = false := by
        unfold whyS at wa
        rw [if_neg nb] at wa
        by_cases g : grows a c n = true
        · rw [if_pos g] at wa; exact absurd wa (by omega)
        · simpa using g
      have gb : grows b c n = false := by
        unfold whyS at wb
        rw [if_neg nb] at wb
        by_cases g : grows b c n = true
        · rw [if_pos g] at wb; exact absurd wb (by omega)
        · simpa using g
      unfold badP at nb
      have hc : 0 ≤ c ∧ c ≤ 1048576 := by omega
      have hn : 0 ≤ n ∧ n ≤ 1048576 := by omega
      by_cases big : a.length + b.length ≥ 32768
      · refine Ev.step (f := fun _ => some true) (fun k => ?_) (Ev.now _)
        simp only [redraftlaw02_SpanCarries.j1]
        rw [if_neg (by simp), ew, if_pos (by omega)]
      · have lta := (through_len (c := c) hn.1 ha.nrm).1
        have ltb := (through_len (c := c) hn.1 hb.nrm).1
        rw [throughA_good ha hc hn ga, throughA_good hb hc hn gb, few_ok (show (throughS c n a).length ≤ 32768 from by omega), few_ok (show (throughS c n b).length ≤ 32768 from by omega)]
        have gx := through_good ha hc.1 hn.1 ga (by omega)
        have gy := through_good hb hc.1 hn.1 gb (by omega)
        have lu := union_len ha.nrm hb.nrm
        have lm := meet_len ha.nrm hb.nrm
        have ld := minus_len ha.nrm hb.nrm
        have gu := union_good ha hb (by omega)
        have gm := meet_good ha hb (by omega)
        have gd := minus_good ha hb (by omega)
        have nu := nogrow_of gu.nrm ha.nrm hb.nrm (fun q => ((unionS_spec ha.nrm.ris hb.nrm.ris).2 q).1) ga gb
        have nm := nogrow_of gm.nrm ha.nrm hb.nrm (fun q h => .inl (((meetS_spec ha.nrm hb.nrm).2 q).1 h).1) ga gb
        have nd := nogrow_of gd.nrm ha.nrm hb.nrm (fun q h => .inl (((minusS_spec ha.nrm hb.nrm).2 q).1 h).1) ga gb
        have ltu := (through_len (c := c) hn.1 gu.nrm).1
        have ltm := (through_len (c := c) hn.1 gm.nrm).1
        have ltd := (through_len (c := c) hn.1 gd.nrm).1
        have eu : unionA (throughS c n a) (throughS c n b) = (throughS c n (unionS a b), 0) := by rw [unionA_good gx gy, ← carry_union ha.nrm hb.nrm hn.1, few_ok (by omega)]
        have em : meetA (throughS c n a) (throughS c n b) = (throughS c n (meetS a b), 0) := by rw [meetA_good gx gy, ← carry_meet ha.nrm hb.nrm hn.1, few_ok (by omega)]
        have ed : minusA (throughS c n a) (throughS c n b) = (throughS c n (minusS a b), 0) := by rw [minusA_good gx gy, ← carry_minus ha.nrm hb.nrm hn.1, few_ok (by omega)]
        have tu : throughA (unionS a b) c n = (throughS c n (unionS a b), 0) := by rw [throughA_good gu hc hn nu, few_ok (by omega)]
        have tm : throughA (meetS a b) c n = (throughS c n (meetS a b), 0) := by rw [throughA_good gm hc hn nm, few_ok (by omega)]
        have td : throughA (minusS a b) c n = (throughS c n (minusS a b), 0) := by rw [throughA_good gd hc hn nd, few_ok (by omega)]
        refine Ev.step (f := fun k => redraftlaw02_SpanCarries.j2 k c n a b (throughS c n a) (throughS c n b) false) (fun k => ?_) ?_
        · simp only [redraftlaw02_SpanCarries.j1]
          rw [if_neg (by simp), ew, if_neg (by omega)]
          simp [num_f]
        · refine Ev.step (f := fun k => (span_Union.f k a b).bind fun u => (span_Meet.f k a b).bind fun m => (span_Minus.f k a b).bind fun d => (span_Through.f k u.1 c n).bind fun u1 => (span_Through.f k m.1 c n).bind fun m1 => (span_Through.f k d.1 c n).bind fun d1 =>
            (span_Union.f k (throughS c n a) (throughS c n b)).bind fun u2 => (span_Meet.f k (throughS c n a) (throughS c n b)).bind fun m2 => (span_Minus.f k (throughS c n a) (throughS c n b)).bind fun d2 =>
            if u.2 = 0 then (if m.2 = 0 then (if d.2 = 0 then (if u1.2 = 0 then (if m1.2 = 0 then redraftlaw02_SpanCarries.j3 k u1.1 m1.1 d1.1 u2.1 u2.2 m2.1 m2.2 d2.1 d2.2 (d1.2 != 0) else redraftlaw02_SpanCarries.j3 k u1.1 m1.1 d1.1 u2.1 u2.2 m2.1 m2.2 d2.1 d2.2 true) else redraftlaw02_SpanCarries.j3 k u1.1 m1.1 d1.1 u2.1 u2.2 m2.1 m2.2 d2.1 d2.2 true) else redraftlaw02_SpanCarries.j3 k u1.1 m1.1 d1.1 u2.1 u2.2 m2.1 m2.2 d2.1 d2.2 true) else redraftlaw02_SpanCarries.j3 k u1.1 m1.1 d1.1 u2.1 u2.2 m2.1 m2.2 d2.1 d2.2 true) else redraftlaw02_SpanCarries.j3 k u1.1 m1.1 d1.1 u2.1 u2.2 m2.1 m2.2 d2.1 d2.2 true)
            (fun k => by simp only [redraftlaw02_SpanCarries.j2]; rw [if_neg (by simp), copied_f ha.short, copied_f hb.short, copied_f gx.short, copied_f gy.short]; rfl) ?_
          refine Ev.bind (Union_ev ha.short hb.short) (Ev.bind (Meet_ev ha.short hb.short) (Ev.bind (Minus_ev ha.short hb.short) ?_))
          rw [unionA_good ha hb, meetA_good ha hb, minusA_good ha hb, few_ok (show (unionS a b).length ≤ 32768 from by omega), few_ok (show (meetS a b).length ≤ 32768 from by omega), few_ok (show (minusS a b).length ≤ 32768 from by omega)]
          refine Ev.bind (Through_ev gu.short c n) (Ev.bind (Through_ev gm.short c n) (Ev.bind (Through_ev gd.short c n) ?_))
          rw [tu, tm, td]
          refine Ev.bind (Union_ev gx.short gy.short) (Ev.bind (Meet_ev gx.short gy.short) (Ev.bind (Minus_ev gx.short gy.short) ?_))
          rw [eu, em, ed]
          simp only [if_true, bne_self_eq_false]
          exact carries_j3 (by show (throughS c n (unionS a b)).length < _; omega) (by show (throughS c n (meetS a b)).length < _; omega) (by show (throughS c n (minusS a b)).length < _; omega)
    · rw [show (whyS b c n != 0) = true from by simpa using wb]
      exact yes
  · simp only [if_neg wa]
    exact yes
theorem SpanCarries_pure (x : SIn) (h : WfIn x) : ∃ k, redraftlaw02_SpanCarries.f k x.1 x.2.1 x.2.2.1 x.2.2.2.1 x.2.2.2.2 = some true := by
  refine Ev.rounds (g := fun k => redraftlaw02_SpanCarries.f k x.1 x.2.1 x.2.2.1 x.2.2.2.1 x.2.2.2.2) ?_
  unfold redraftlaw02_SpanCarries.f
  obtain ⟨p, p1, p2, p3⟩ := right_ev (wfl_short h.1)
  obtain ⟨q, q1, q2, q3⟩ := right_ev (wfl_short h.2.1)
  have hps : Short p := by show p.length < _; omega
  have hqs : Short q := by show q.length < _; omega
  refine Ev.bind p1 ?_
  simp only [copied_f hps, Option.bind_some, Make_f, makeA_good p2 p3, num_f, if_true]
  refine Ev.bind q1 ?_
  simp only [copied_f hqs, Option.bind_some, makeA_good q2 q3, if_true]
  refine Ev.bind awake_ev ?_
  exact carries_j0 (ofParts_good p2 p3) (ofParts_good q2 q3) _ _
end Go.Proofs.Ytmidiifgdloojaa.SpanFns
end
