/- SpanIsSet, for every input: the law answers true and its argument reads as before; no condition. -/
import Derived.Test.YtmidiifgdloojaaClaimIsSet4
section
namespace Go.Proofs.Ytmidiifgdloojaa.SpanFns
open Go.RowKit Go.Proofs.YtmidiifgdloojaaW.PrintWords Go.Proofs.YtmidiifgdloojaaW.PrintMore Go.Proofs.Ytmidiifgdloojaa.Pr Go.Proofs.Ytmidiifgdloojaa.SpanMath Go.Proofs.Ytmidiifgdloojaa.SpanReads
theorem isSet_l0 {p q a b u m d : List S36} {s0 s1 : List S36} {s2 : List Int} {s3 s4 : Int} (hp : Short p) (hq : Short q) (ha : Good a) (hb : Good b) (gu : Good u) (gm : Good m) (gd : Good d) (e1 : ∀ x, mem a x ↔ mem p x) (e2 : ∀ x, mem b x ↔ mem q x)
    (e3 : ∀ x, mem u x ↔ mem a x ∨ mem b x) (e4 : ∀ x, mem m x ↔ mem a x ∧ mem b x) (e5 : ∀ x, mem d x ↔ mem a x ∧ ¬ mem b x) {asked : List Int} (hl : asked.length ≤ 17592186044416) : ∀ (suf pre : List Int), pre ++ suf = asked →
    Ev (fun k => redraftlaw02_SpanIsSet.l0 k p q a b u m d asked (pre.length : Int) s0 s1 s2 s3 s4) true
  | [], pre, e => by
    refine Ev.step (f := fun k => (redraftlaw02_carries.f k a s3 s4 asked).bind fun t => some t) (fun k => ?_) (Ev.bind (carries_ev ha s3 s4 hl) (Ev.now _))
    simp only [List.append_nil] at e
    subst e
    simp only [redraftlaw02_SpanIsSet.l0]
    rw [if_neg (by omega)]
  | x :: suf, pre, e => by
    have hl1 : asked.length = pre.length + 1 + suf.length := by rw [← e]; simp; omega
    have hrd : rd asked (pre.length : Int) = x := by rw [← e]; exact rdi_at pre x suf
    have ih := isSet_l0 (s0 := s0) (s1 := s1) (s2 := s2) (s3 := s3) (s4 := s4) hp hq ha hb gu gm gd e1 e2 e3 e4 e5 hl suf (pre ++ [x]) (by rw [List.append_assoc]; exact e)
    have es : wrap64 ((pre.length : Int) + 1) = ((pre ++ [x]).length : Int) := by rw [w64 (by omega) (by omega)]; simp
    refine Ev.step (f := fun k => (redraftlaw02_lies.f k a x).bind fun t => (redraftlaw02_lies.f k p x).bind fun t2 => if (t != t2) = true then some false else (redraftlaw02_lies.f k b x).bind fun t3 => (redraftlaw02_lies.f k q x).bind fun t4 => if (t3 != t4) = true then some false else (redraftlaw02_inAll.f k a b u m d x).bind fun t5 => if t5 = true then redraftlaw02_SpanIsSet.l0 k p q a b u m d asked (((pre ++ [x]).length : Nat) : Int) s0 s1 s2 s3 s4 else some false) (fun k => ?_) ?_
    · simp only [redraftlaw02_SpanIsSet.l0]
      rw [if_pos (by omega), if_pos (by omega), hrd, es]
    · refine Ev.bind (lies_ev ha.short x) (Ev.bind (lies_ev hp x) ?_)
      rw [inB_eq (e1 x)]
      simp only [bne_self_eq_false, Bool.false_eq_true, if_false]
      refine Ev.bind (lies_ev hb.short x) (Ev.bind (lies_ev hq x) ?_)
      rw [inB_eq (e2 x)]
      simp only [bne_self_eq_false, Bool.false_eq_true, if_false]
      refine Ev.bind (inAll_ev ha.short hb.short gu.short gm.short gd.short ?_ ?_ ?_) ?_
      · rw [Bool.eq_iff_iff, Bool.or_eq_true, inB_iff, inB_iff, inB_iff, e3]
      · rw [Bool.eq_iff_iff, Bool.and_eq_true, inB_iff, inB_iff, inB_iff, e4]
      · rw [Bool.eq_iff_iff, Bool.and_eq_true, Bool.not_eq_true', Bool.eq_false_iff, ne_eq, inB_iff, inB_iff, inB_iff, e5]
      · simp only [if_true]
        exact ih
theorem isSet_j0 {p q : List S36} {s0 s1 : List S36} {s2 : List Int} {s3 s4 : Int} (hp : p.length ≤ 32768) (hq : q.length ≤ 32768) (pp : ∀ r ∈ p, Part r) (pq : ∀ r ∈ q, Part r) (h2 : s2.length * 8 ≤ 140737488351232) :
    Ev (fun k => redraftlaw02_SpanIsSet.j0 k p q (ofParts p) (ofParts q) false s0 s1 s2 s3 s4) true := by
  have ha := ofParts_good hp pp
  have hb := ofParts_good hq pq
  have hps : Short p := by show p.length < _; omega
  have hqs : Short q := by show q.length < _; omega
  obtain ⟨a1, a2⟩ := ofParts_spec p
  obtain ⟨b1, b2⟩ := ofParts_spec q
  generalize ofParts p = a at *
  generalize ofParts q = b at *
  have la := ha.1
  have lb := hb.1
  have ew : wrap64 ((a.length : Int) + (b.length : Int)) = (a.length : Int) + b.length := w64 (by omega) (by omega)
  obtain ⟨u1, u2⟩ := unionS_spec a1.ris b1.ris
  obtain ⟨m1, m2⟩ := meetS_spec a1 b1
  obtain ⟨d1, d2⟩ := minusS_spec a1 b1
  have lu := union_len a1 b1
  have lm := meet_len a1 b1
  have ld := minus_len a1 b1
  have no : 32768 < a.length + b.length → ∀ u m d : List S36, Ev (fun k => redraftlaw02_SpanIsSet.j1 k p q a b u m d true s0 s1 s2 s3 s4) true := by
    intro hgt u m d
    refine Ev.step (f := fun _ => some true) (fun k => ?_) (Ev.now _)
    simp only [redraftlaw02_SpanIsSet.j1, if_true]
    rw [ew, decide_eq_true (by omega)]
  refine Ev.step (f := fun k => (span_Union.f k a b).bind fun x => (span_Meet.f k a b).bind fun y => (span_Minus.f k a b).bind fun z => if x.2 = 0 then (if y.2 = 0 then redraftlaw02_SpanIsSet.j1 k p q a b x.1 y.1 z.1 (z.2 != 0) s0 s1 s2 s3 s4 else redraftlaw02_SpanIsSet.j1 k p q a b x.1 y.1 z.1 true s0 s1 s2 s3 s4) else redraftlaw02_SpanIsSet.j1 k p q a b x.1 y.1 z.1 true s0 s1 s2 s3 s4) (fun k => by simp only [redraftlaw02_SpanIsSet.j0]; rw [if_neg (by simp), copied_f ha.short, copied_f hb.short]; rfl) ?_
  refine Ev.bind (Union_ev ha.short hb.short) (Ev.bind (Meet_ev ha.short hb.short) (Ev.bind (Minus_ev ha.short hb.short) ?_))
  rw [unionA_good ha hb, meetA_good ha hb, minusA_good ha hb]
  by_cases f1 : (unionS a b).length ≤ 32768
  · by_cases f2 : (meetS a b).length ≤ 32768
    · by_cases f3 : (minusS a b).length ≤ 32768
      · rw [few_ok f1, few_ok f2, few_ok f3]
        have gu := union_good ha hb f1
        have gm := meet_good ha hb f2
        have gd := minus_good ha hb f3
        simp only [if_true, bne_self_eq_false]
        have hc : redraftlaw02_copiedInts.f s2 = some s2 := by
          unfold redraftlaw02_copiedInts.f
          rw [if_pos (by simp; omega), List.nil_append]
        refine Ev.step (f := fun k => (redraftlaw02_normal.f k (unionS a b)).bind fun t => if t = true then ((redraftlaw02_normal.f k (meetS a b)).bind fun t2 => if t2 = true then ((redraftlaw02_normal.f k (minusS a b)).bind fun t3 => redraftlaw02_SpanIsSet.j2 k p q a b (unionS a b) (meetS a b) (minusS a b) (!t3) s0 s1 s2 s3 s4) else redraftlaw02_SpanIsSet.j2 k p q a b (unionS a b) (meetS a b) (minusS a b) true s0 s1 s2 s3 s4) else redraftlaw02_SpanIsSet.j2 k p q a b (unionS a b) (meetS a b) (minusS a b) true s0 s1 s2 s3 s4) (fun k => by simp only [redraftlaw02_SpanIsSet.j1]; rw [if_neg (by simp)]) ?_
        refine Ev.bind (normal_ev gu) ?_
        simp only [if_true]
        refine Ev.bind (normal_ev gm) ?_
        simp only [if_true]
        refine Ev.bind (normal_ev gd) ?_
        obtain ⟨R, r1, r2⟩ := near_ev (ps := q) (g := s2 ++ [s3, wrap64 (s3 + s4)]) hq (by simp; omega)
        simp only [List.length_append, List.length_cons, List.length_nil] at r2
        obtain ⟨R', r3, r4⟩ := near_ev (ps := p) (g := R) hp (by omega)
        refine Ev.step (f := fun k => (redraftlaw02_near.f k q (s2 ++ [s3, wrap64 (s3 + s4)])).bind fun t => (redraftlaw02_near.f k p t).bind fun v => redraftlaw02_SpanIsSet.l0 k p q a b (unionS a b) (meetS a b) (minusS a b) v 0 s0 s1 s2 s3 s4) (fun k => ?_) ?_
        · simp only [redraftlaw02_SpanIsSet.j2]
          rw [if_neg (by simp), hc]
          simp only [Option.bind_some]
          rw [if_pos (by simp; omega)]
        · refine Ev.bind r1 (Ev.bind r3 ?_)
          exact isSet_l0 hps hqs ha hb gu gm gd a2 b2 u2 m2 d2 (by omega) R' [] rfl
      · rw [few_no f3]
        have := no (by omega)
        split
        · split
          · exact this _ _ _
          · exact this _ _ _
        · exact this _ _ _
    · rw [few_no f2]
      have := no (by omega)
      simp only [show ¬ ((21 : Int) = 0) from by omega, if_false]
      split <;> exact this _ _ _
  · rw [few_no f1]
    have := no (by omega)
    simp only [show ¬ ((21 : Int) = 0) from by omega, if_false]
    exact this _ _ _
theorem SpanIsSet_pure (x : SIn) (h : WfIn x) : ∃ k, redraftlaw02_SpanIsSet.f k x.1 x.2.1 x.2.2.1 x.2.2.2.1 x.2.2.2.2 = some true := by
  refine Ev.rounds (g := fun k => redraftlaw02_SpanIsSet.f k x.1 x.2.1 x.2.2.1 x.2.2.2.1 x.2.2.2.2) ?_
  unfold redraftlaw02_SpanIsSet.f
  obtain ⟨p, p1, p2, p3⟩ := right_ev (wfl_short h.1)
  obtain ⟨q, q1, q2, q3⟩ := right_ev (wfl_short h.2.1)
  have hps : Short p := by show p.length < _; omega
  have hqs : Short q := by show q.length < _; omega
  refine Ev.bind p1 (Ev.bind q1 ?_)
  simp only [copied_f hps, copied_f hqs, Option.bind_some, Make_f, makeA_good p2 p3, makeA_good q2 q3, num_f, if_true]
  refine Ev.bind (normal_ev (ofParts_good p2 p3)) ?_
  simp only [if_true]
  refine Ev.bind (normal_ev (ofParts_good q2 q3)) ?_
  simp only [if_true]
  refine Ev.bind awake_ev ?_
  exact isSet_j0 p2 q2 p3 q3 h.2.2.1.1
end Go.Proofs.Ytmidiifgdloojaa.SpanFns
end
