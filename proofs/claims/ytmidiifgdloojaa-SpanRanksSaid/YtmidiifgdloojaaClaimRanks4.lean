/- SpanRanks, for every input: the law answers true and its argument reads as before; no condition. -/
import Derived.Test.YtmidiifgdloojaaClaimRanks3
section
namespace Go.Proofs.Ytmidiifgdloojaa.SpanFns
open Go.Proofs.Ytmidiifgdloojaa.Kq
open Go.RowKit Go.Proofs.YtmidiifgdloojaaW.PrintWords Go.Proofs.YtmidiifgdloojaaW.PrintMore Go.Proofs.Ytmidiifgdloojaa.Pr Go.Proofs.Ytmidiifgdloojaa.SpanMath Go.Proofs.Ytmidiifgdloojaa.SpanReads
theorem cnt_app (a b : List S36) : cnt (a ++ b) = cnt a + cnt b := by simp [cnt]
theorem rankS_app (a b : List S36) (p : Int) : rankS (a ++ b) p = rankS a p + rankS b p := by simp [rankS]
theorem cnt_bd : ∀ {l : List S36}, Small l → 0 ≤ cnt l ∧ cnt l ≤ 1048576 * (l.length : Int)
  | [], _ => by simp [cnt_nil]
  | r :: l, h => by
    obtain ⟨h1, h2, h3⟩ := h r List.mem_cons_self
    have ih := cnt_bd h.tail
    rw [cnt_cons]
    simp only [List.length_cons]
    omega
theorem rank_start {pre suf : List S36} {r : S36} (h : Nrm (pre ++ r :: suf)) : rankS (pre ++ r :: suf) r.f0 = cnt pre := by
  obtain ⟨h1, h2, h3⟩ := nrm_append.1 h
  rw [rankS_app, rankS_all (fun s hs => ⟨h1.2 s hs, Int.le_of_lt (h3 s hs r List.mem_cons_self)⟩), rankS_zero (fun s hs => by
    rcases List.mem_cons.1 hs with rfl | hs
    · exact Int.le_refl _
    · have := (nrm_cons.1 h2).2.1 s hs
      have := (nrm_cons.1 h2).1
      omega)]
  omega
theorem nth_in : ∀ (l : List S36), Nrm l → ∀ q : Int, 0 ≤ q → q < cnt l → ∃ p, nthS l q = (p, 0) ∧ mem l p ∧ rankS l p = q
  | [], _, q, h0, h1 => by rw [cnt_nil] at h1; omega
  | r :: l, h, q, h0, h1 => by
    obtain ⟨g1, g2, g3⟩ := nrm_cons.1 h
    rw [cnt_cons] at h1
    by_cases c : q < r.f1 - r.f0
    · refine ⟨r.f0 + q, by simp only [nthS]; rw [if_pos c], (mem_cons _ _ _).2 (.inl (by omega)), ?_⟩
      rw [rankS_cons, rankS_zero (fun s hs => by have := g2 s hs; omega)]
      unfold mnI
      split <;> (try split) <;> omega
    · obtain ⟨p, p1, p2, p3⟩ := nth_in l g3 (q - (r.f1 - r.f0)) (by omega) (by omega)
      have hp := mem_tail_gt h p2
      refine ⟨p, by simp only [nthS]; rw [if_neg c]; exact p1, (mem_cons _ _ _).2 (.inr p2), ?_⟩
      rw [rankS_cons, p3]
      unfold mnI
      split <;> (try split) <;> omega
theorem rankA_good {l : List S36} (h : Good l) {p : Int} (h0 : 0 ≤ p) (h1 : p ≤ 1048576) : rankA l p = (rankS l p, 0) := by
  unfold rankA
  rw [if_pos (checkS_good.2 h), if_neg (by omega)]
theorem ranks_j9 {a b : List S36} (ha : Good a) (hb : Good b) : Ev (fun k => sRanks.j9 k a b (cnt a) (cnt b)) true := by
  have la := ha.1
  have lb := hb.1
  have ew : wrap64 ((a.length : Int) + (b.length : Int)) = (a.length : Int) + b.length := w64 (by omega) (by omega)
  by_cases big : a.length + b.length > 32768
  · refine Ev.step (f := fun _ => some true) (fun k => ?_) (Ev.now _)
    simp only [sRanks.j9]
    rw [ew, if_pos (by omega)]
  · have lu := union_len ha.nrm hb.nrm
    have lm := meet_len ha.nrm hb.nrm
    have gu := union_good ha hb (by omega)
    have gm := meet_good ha hb (by omega)
    have ca := cnt_bd ha.small
    have cb := cnt_bd hb.small
    have cu := cnt_bd gu.small
    have cm := cnt_bd gm.small
    have both := rankS_both ha.nrm hb.nrm gu.nrm gm.nrm (unionS_spec ha.nrm.ris hb.nrm.ris).2 (meetS_spec ha.nrm hb.nrm).2
    refine Ev.step (f := fun k => (span_Union.f k a b).bind fun u => (span_Meet.f k a b).bind fun m => (span_Count.f k u.1).bind fun x => (span_Count.f k m.1).bind fun y => if u.2 = 0 then (if m.2 = 0 then (if x.2 = 0 then (if y.2 = 0 then (some ((wrap64 (x.1 + y.1)) == (wrap64 (cnt a + cnt b)))) else some false) else some false) else some false) else some false) (fun k => by simp only [sRanks.j9]; rw [ew, if_neg (by omega), copied_f ha.short, copied_f hb.short]; rfl) ?_
    refine Ev.bind (Union_ev ha.short hb.short) (Ev.bind (Meet_ev ha.short hb.short) ?_)
    rw [unionA_good ha hb, meetA_good ha hb, few_ok (show (unionS a b).length ≤ 32768 from by omega), few_ok (show (meetS a b).length ≤ 32768 from by omega)]
    refine Ev.bind (Count_ev gu) (Ev.bind (Count_ev gm) ?_)
    simp only [if_true]
    have e : cnt (unionS a b) + cnt (meetS a b) = cnt a + cnt b := by
      have := both (fun r hr => by
        simp only [List.mem_append] at hr
        rcases hr with ((hr | hr) | hr) | hr
        · exact (ha.small r hr).1
        · exact (hb.small r hr).1
        · exact (gu.small r hr).1
        · exact (gm.small r hr).1) 1048576
      rw [show ((1048576 : Nat) : Int) = 1048576 from rfl, rank_top ha, rank_top hb, rank_top gu, rank_top gm] at this
      exact this
    rw [e]
    simpa using Ev.now true
theorem ranks_j5 {a b : List S36} (ha : Good a) (hb : Good b) {q : Int} (hq : q ≤ 9223372036854775807) : Ev (fun k => sRanks.j5 k q a b (cnt a) (cnt b) false) true := by
  have key : ∀ f : Bool, f = decide (q < 0 ∨ q ≥ cnt a) → Ev (fun k => sRanks.j6 k q a b (cnt a) (cnt b) (nthA a q).1 (nthA a q).2 f) true := by
    rintro f rfl
    by_cases out : q < 0 ∨ q ≥ cnt a
    · have e : nthA a q = (0, 12) := by
        unfold nthA
        rw [if_pos (checkS_good.2 ha)]
        by_cases c : q < 0
        · rw [if_pos c]
        · rw [if_neg c, nthS_far a q (by omega) ha.nrm.2]
      rw [e, decide_eq_true out]
      refine Ev.step (f := fun k => sRanks.j7 k a b (cnt a) (cnt b) false) (fun k => ?_) (Ev.step (fun k => ?_) (ranks_j9 ha hb))
      · simp only [sRanks.j6, if_true, num_f, Option.bind_some, bne_self_eq_false]
      · simp only [sRanks.j7]
        rw [if_neg (by simp)]
    · obtain ⟨p, p1, p2, p3⟩ := nth_in a ha.nrm q (by omega) (by omega)
      have hp := mem_bd ha p2
      have e : nthA a q = (p, 0) := by
        unfold nthA
        rw [if_pos (checkS_good.2 ha), if_neg (by omega), p1]
      rw [e, decide_eq_false out]
      refine Ev.step (f := fun k => (span_Rank.f k a p).bind fun x => if x.2 = 0 then (if x.1 = q then ((redraftlaw02_lies.f k a p).bind fun t => sRanks.j8 k a b (cnt a) (cnt b) (!t)) else sRanks.j8 k a b (cnt a) (cnt b) true) else sRanks.j8 k a b (cnt a) (cnt b) true) (fun k => by simp only [sRanks.j6]; rw [if_neg (by simp), copied_f ha.short]; rfl) ?_
      refine Ev.bind (Rank_ev ha.short p) ?_
      rw [rankA_good ha hp.1 (by omega), p3]
      simp only [if_true]
      refine Ev.bind (lies_ev ha.short p) ?_
      rw [(inB_iff a p).2 p2]
      refine Ev.step (fun k => ?_) (ranks_j9 ha hb)
      simp only [sRanks.j8]
      rw [if_neg (by simp)]
  refine Ev.step (f := fun k => (span_Nth.f k a q).bind fun x => if q < 0 then sRanks.j6 k q a b (cnt a) (cnt b) x.1 x.2 true else sRanks.j6 k q a b (cnt a) (cnt b) x.1 x.2 (decide (q ≥ cnt a))) (fun k => by simp only [sRanks.j5]; rw [if_neg (by simp), copied_f ha.short]; rfl) ?_
  refine Ev.bind (Nth_ev ha.short q hq) ?_
  by_cases c : q < 0
  · simp only [if_pos c]; exact key true (by simp [c])
  · simp only [if_neg c]; exact key _ (by simp [c])
theorem ranks_l0 {a b : List S36} (ha : Good a) (hb : Good b) {q : Int} (hq : q ≤ 9223372036854775807) : ∀ (suf pre : List S36), pre ++ suf = a → Ev (fun k => sRanks.l0 k q a b (cnt a) (cnt b) (cnt pre) (pre.length : Int)) true
  | [], pre, e => by
    simp only [List.append_nil] at e
    subst e
    refine Ev.step (f := fun k => (span_Rank.f k pre 1048576).bind fun x => if x.1 = cnt pre then sRanks.j5 k q pre b (cnt pre) (cnt b) (x.2 != 0) else sRanks.j5 k q pre b (cnt pre) (cnt b) true) (fun k => ?_) ?_
    · simp only [sRanks.l0]
      rw [if_neg (by omega), copied_f ha.short]
      simp only [Option.bind_some, if_true, num_f]
    · refine Ev.bind (Rank_ev ha.short 1048576) ?_
      rw [rankA_good ha (by omega) (by omega), rank_top ha]
      simp only [if_true, bne_self_eq_false]
      exact ranks_j5 ha hb hq
  | r :: suf, pre, e => by
    have la := ha.1
    have hl1 : a.length = pre.length + 1 + suf.length := by rw [← e]; simp; omega
    have hrd : rd_T36 a (pre.length : Int) = r := by rw [← e]; exact rd_at pre r suf
    have hr : r ∈ a := by rw [← e]; simp
    obtain ⟨s1, s2, s3⟩ := ha.small r hr
    have hp : Small pre := fun s hs => ha.small s (by rw [← e]; exact List.mem_append_left _ hs)
    have cp := cnt_bd hp
    have es : wrap64 (wrap64 (cnt pre + r.f1) - r.f0) = cnt (pre ++ [r]) := by
      rw [w64 (n := cnt pre + r.f1) (by omega) (by omega), w64 (by omega) (by omega), cnt_app, cnt_cons, cnt_nil]
      omega
    have ih := ranks_l0 ha hb hq suf (pre ++ [r]) (by rw [List.append_assoc]; exact e)
    have next : ∀ f : Bool, Ev (fun k => sRanks.j3 k q a b (cnt a) (cnt b) (cnt pre) (pre.length : Int) f) true := by
      intro f
      cases f with
      | false =>
        refine Ev.step (fun k => ?_) ih
        simp only [sRanks.j3]
        rw [if_neg (by simp), if_pos (by omega), if_pos (by omega), hrd, es, e_succ pre r (by omega)]
      | true =>
        refine Ev.step (f := fun k => (span_Rank.f k a r.f0).bind fun x => if x.2 = 0 then sRanks.j4 k q a b (cnt a) (cnt b) (cnt pre) (pre.length : Int) (x.1 != cnt pre) else sRanks.j4 k q a b (cnt a) (cnt b) (cnt pre) (pre.length : Int) true) (fun k => ?_) ?_
        · simp only [sRanks.j3, if_true]
          rw [copied_f ha.short]
          simp only [Option.bind_some]
          rw [if_pos (by omega), if_pos (by omega), hrd]
          simp only [num_f, Option.bind_some]
        · refine Ev.bind (Rank_ev ha.short r.f0) ?_
          have hrk : rankS a r.f0 = cnt pre := by
            have := ha.nrm
            rw [← e] at this ⊢
            exact rank_start this
          rw [rankA_good ha s1 (by omega), hrk]
          simp only [if_true, bne_self_eq_false]
          refine Ev.step (fun k => ?_) ih
          simp only [sRanks.j4]
          rw [if_neg (by simp), if_pos (by omega), if_pos (by omega), hrd, es, e_succ pre r (by omega)]
    by_cases c : (pre.length : Int) < 40
    · refine Ev.step (fun k => ?_) (next true)
      simp only [sRanks.l0]
      rw [if_pos (by omega), if_pos c]
    · refine Ev.step (fun k => ?_) (next ((pre.length : Int) == (wrap64 ((a.length : Int) - 1))))
      simp only [sRanks.l0]
      rw [if_pos (by omega), if_neg c]
theorem SpanRanks_pure (x : SIn) (h : WfIn x) : ∃ k, sRanks.f k x.1 x.2.1 x.2.2.1 x.2.2.2.1 x.2.2.2.2 = some true := by
  refine Ev.rounds (g := fun k => sRanks.f k x.1 x.2.1 x.2.2.1 x.2.2.2.1 x.2.2.2.2) ?_
  unfold sRanks.f
  obtain ⟨p, p1, p2, p3⟩ := right_ev (wfl_short h.1)
  obtain ⟨q, q1, q2, q3⟩ := right_ev (wfl_short h.2.1)
  have hps : Short p := by show p.length < _; omega
  have hqs : Short q := by show q.length < _; omega
  have hg : SpanFns.Good ([⟨2, 5⟩, ⟨6, 9⟩] : List S36) := ⟨by decide, nrm_cons.2 ⟨by decide, by simp, nrm_cons.2 ⟨by decide, by simp, nrm_nil⟩⟩, by simp⟩
  have ha := ofParts_good p2 p3
  have hb := ofParts_good q2 q3
  refine Ev.bind p1 ?_
  simp only [copied_f hps, Option.bind_some, Make_f, makeA_good p2 p3, num_f, if_true]
  refine Ev.bind q1 ?_
  simp only [copied_f hqs, Option.bind_some, makeA_good q2 q3, if_true]
  refine Ev.bind (Count_ev hg) ?_
  have hc : cnt ([⟨2, 5⟩, ⟨6, 9⟩] : List S36) = 6 := by decide
  simp only [hc, if_true, bne_self_eq_false]
  refine Ev.step (f := fun k => (span_Count.f k (ofParts p)).bind fun x1 => (span_Count.f k (ofParts q)).bind fun y => if x1.2 = 0 then sRanks.j1 k x.2.2.2.1 (ofParts p) (ofParts q) x1.1 y.1 (y.2 != 0) else sRanks.j1 k x.2.2.2.1 (ofParts p) (ofParts q) x1.1 y.1 true) (fun k => by simp only [sRanks.j0]; rw [if_neg (by simp), copied_f ha.short, copied_f hb.short]; rfl) ?_
  refine Ev.bind (Count_ev ha) (Ev.bind (Count_ev hb) ?_)
  simp only [if_true, bne_self_eq_false]
  refine Ev.step (f := fun k => sRanks.l0 k x.2.2.2.1 (ofParts p) (ofParts q) (cnt (ofParts p)) (cnt (ofParts q)) 0 0) (fun k => by simp only [sRanks.j1]; rw [if_neg (by simp)]) ?_
  exact ranks_l0 ha hb (wf64 h.2.2.2.1).2 (ofParts p) [] rfl
end Go.Proofs.Ytmidiifgdloojaa.SpanFns
end
