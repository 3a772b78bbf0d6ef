/- Proved: the iterator over a list of ranges keeps its own copy of the list, gives all its places each once, and may be gone through again, also inside itself, and left early; for all inputs. -/
import Derived.Test.YtmidiifgdloojaaClaimAgain2
section
namespace Go.Proofs.Ytmidiifgdloojaa.SpanEach
open Go.RowKit Go.Shelf Go.Proofs.YtmidiifgdloojaaW.PrintWords Go.Proofs.YtmidiifgdloojaaW.PrintLast Go.Proofs.YtmidiifgdloojaaW.PrintMore Go.Proofs.Ytmidiifgdloojaa.Pr Go.Proofs.Ytmidiifgdloojaa.SpanFns Go.Proofs.Ytmidiifgdloojaa.SpanMath
set_option linter.unusedSimpArgs false
set_option linter.unusedVariables false
attribute [local go_sem] Oper.semAt_some redraftlaw02_taken.eqlF
theorem run_store_func {P : Program} {w : World} (a : Addr) (m : Mode) (f : Fn) {x1 : _} {x2 : _} : (store a (.func f x1 x2) m).run P w = stored P w a (.func f x1 x2) m := run_store P w a _ m rfl
attribute [local go_sem] run_store_func
theorem add_block (a : Addr) (i : Nat) : (a.add i).block = a.block := by
  unfold Addr.add
  by_cases h : i = 0 <;> simp [h]
theorem C_int_move {W W' : World} {A : Option Addr} {l : List Int} (h : Kd.C (Kd.int .i64) W A l.length l) (hm : ∀ ad, A = some ad → W'.heap[ad.block]? = W.heap[ad.block]?) : Kd.C (Kd.int .i64) W' A l.length l :=
  ⟨h.1, h.2.1, fun hn => by
    obtain ⟨ad, e, hc⟩ := h.2.2 hn
    refine ⟨ad, e, fun j p hj => ?_⟩
    obtain ⟨c, hs, hr, hcell⟩ := hc j p hj
    refine ⟨c, hs, hr, fun i u hu => ?_⟩
    rw [World.cell?_of_block (w := W) (by rw [add_block]; exact hm ad e)]
    exact hcell i u hu⟩
theorem C_36_move {W W' : World} {A : Option Addr} {l : List S36} (h : Kd.C k36 W A l.length l) (hm : ∀ ad, A = some ad → W'.heap[ad.block]? = W.heap[ad.block]?) : Kd.C k36 W' A l.length l :=
  ⟨h.1, h.2.1, fun hn => by
    obtain ⟨ad, e, hc⟩ := h.2.2 hn
    refine ⟨ad, e, fun j p hj => ?_⟩
    obtain ⟨c, hs, hr, hcell⟩ := hc j p hj
    refine ⟨c, hs, hr, fun i u hu => ?_⟩
    rw [World.cell?_of_block (w := W) (by rw [add_block]; exact hm ad e)]
    exact hcell i u hu⟩
theorem blk_of_R {α : Type} {d : Kd α} {e : TypeId} {W : World} {base : Nat} {ok : Nat → Prop} {v : Value} {xs : List α} (h : d.R e W base ok v xs) : ∃ (A : Option Addr) (c : Nat) (L : List (Nat × Obj)), v = .slice A xs.length c ∧ xs.length ≤ c ∧ d.C W A xs.length xs ∧ (∀ x ∈ L, W.heap[x.1]? = some x.2 ∧ x.2.isCells = true ∧ base ≤ x.1 ∧ v.ownBlock = some x.1) ∧ ∀ W' : World, (∀ x ∈ L, W'.heap[x.1]? = some x.2) → ∀ ad, A = some ad → W'.heap[ad.block]? = W.heap[ad.block]? := by
  obtain ⟨inner, ho⟩ := Kd.R_own h
  obtain ⟨A, c, hv⟩ := Kd.R_slice h
  subst hv
  obtain ⟨_, hc, hC⟩ := Kd.R_reads' h
  rcases ho.2 with ⟨hv, hx⟩ | ⟨g, cap, cur, hv, hbg, hh, _⟩
  · injection hv with h1 h2 h3
    subst h1
    exact ⟨none, c, [], rfl, hc, hC, by simp, fun W' _ ad e => by cases e⟩
  · injection hv with h1 h2 h3
    subst h1
    refine ⟨_, c, [(g, .cells cur e (0, 0))], rfl, hc, hC, fun x hx => ?_, fun W' hW ad e => ?_⟩
    · rw [List.mem_singleton.1 hx]
      exact ⟨hh, rfl, hbg, rfl⟩
    · injection e with e
      subst e
      exact (hW _ List.mem_cons_self).trans hh.symm
theorem mine_at {W : World} {base : Nat} {ok : Nat → Prop} {A : Option Addr} {c : Nat} {l : List S36} (h : Kd.R k36 36 W base ok (.slice A l.length c) l) : l.length = 0 ∨ ∃ g cur, A = some ⟨g, 0, none⟩ ∧ base ≤ g ∧ W.heap[g]? = some (.cells cur 36 (0, 0)) ∧ l.length * 2 ≤ cur.size := by
  obtain ⟨inner, ho⟩ := Kd.R_own h
  rcases ho.2 with ⟨hv, hx⟩ | ⟨g, cap, cur, hv, hbg, hh, hnc, hcm, hcs, _⟩
  · exact .inl hx
  · injection hv with h1 h2 h3
    refine .inr ⟨g, cur, h1, hbg, hh, ?_⟩
    rw [hcs]
    exact Nat.mul_le_mul_right _ hnc
def Mine (A : Option Addr) (m : Nat) (bs : List (Nat × Obj)) (n : Nat) (W : World) : Prop := m = 0 ∨ ∃ g cur, A = some ⟨g, 0, none⟩ ∧ W.heap[g]? = some (.cells cur 36 (0, 0)) ∧ m * 2 ≤ cur.size ∧ (∀ x ∈ bs, x.1 ≠ g) ∧ n ≤ g
theorem Mine.step {A : Option Addr} {m : Nat} {bs : List (Nat × Obj)} {w W : World} {g : Nat} {cur : Array Value} (hs : St w bs W) (hA : A = some ⟨g, 0, none⟩) (hh : W.heap[g]? = some (.cells cur 36 (0, 0))) (hsz : m * 2 ≤ cur.size) (hne : ∀ x ∈ bs, x.1 ≠ g) (hg : w.heap.size ≤ g) {i : Nat} (hi : i < m) (a b : Value) :
    (∃ v, W.cell? ⟨g, i * 2, none⟩ = some v) ∧ W.frozen? ⟨g, i * 2, none⟩ = false ∧ (∃ v, (W.setCell ⟨g, i * 2, none⟩ a).cell? ⟨g, i * 2 + 1, none⟩ = some v) ∧ (W.setCell ⟨g, i * 2, none⟩ a).frozen? ⟨g, i * 2 + 1, none⟩ = false ∧ St w bs ((W.setCell ⟨g, i * 2, none⟩ a).setCell ⟨g, i * 2 + 1, none⟩ b) ∧ Mine A m bs w.heap.size ((W.setCell ⟨g, i * 2, none⟩ a).setCell ⟨g, i * 2 + 1, none⟩ b) := by
  have h0 : ∃ v, cur[i * 2]? = some v := ⟨_, Array.getElem?_eq_getElem (by omega)⟩
  have h1 : ∃ v, cur[i * 2 + 1]? = some v := ⟨_, Array.getElem?_eq_getElem (by omega)⟩
  obtain ⟨v0, h0⟩ := h0
  obtain ⟨v1, h1⟩ := h1
  obtain ⟨cur', hc1, hc2, _⟩ := setCells_row (g := g) (e := 36) [a, b] (i * 2) W cur hh (by simp; omega)
  refine ⟨⟨v0, by simp [World.cell?, hh, h0]⟩, by simp [World.frozen?, hh], ⟨v1, ?_⟩, ?_, ?_, .inr ⟨g, cur', hA, hc1, by omega, hne, hg⟩⟩
  · rw [World.cell?_setCell_other _ _ _ _ (by simp)]
    simp [World.cell?, hh, h1]
  · rw [World.frozen?_setCell]
    simp [World.frozen?, hh]
  · refine ⟨fun x hx => ?_, (hs.bel.setCell (p := ⟨g, i * 2, none⟩) hg a).setCell (p := ⟨g, i * 2 + 1, none⟩) hg b⟩
    exact ((Below.heap_setCell _ ⟨g, i * 2 + 1, none⟩ b x.1 (hne x hx)).trans (Below.heap_setCell W ⟨g, i * 2, none⟩ a x.1 (hne x hx))).trans (hs.b x hx)
theorem int_cell {W : World} {A : Option Addr} {l : List Int} (h : Kd.C (Kd.int .i64) W A l.length l) {j : Nat} {x : Int} (hx : l[j]? = some x) : ∃ ad, A = some ad ∧ W.cell? (ad.add j) = some (.int .i64 x) := by
  have hj : j < l.length := (List.getElem?_eq_some_iff.1 hx).1
  obtain ⟨ad, e, hc⟩ := h.2.2 (by omega)
  obtain ⟨c, hs, hr, hcell⟩ := hc j x hx
  refine ⟨ad, e, ?_⟩
  have hr' : c = [.int .i64 x] := hr
  subst hr'
  have := hcell 0 _ rfl
  rw [show (Kd.int IntKind.i64).sz = 1 from rfl] at this
  simpa using this
theorem range_join2 {F : Fence} {n : Nat} {P : Program} {cd : Code} {Q : Exit → Act → World → Prop} {a : Act} {w : World} (R : Nat → World → Prop)
    (hx : ∀ a W, Q .normal a W → Q (.exit (2 : Nat)) a W)
    (h : cd.wpIn F n P (fun e a' W => (e = .normal ∨ e = .exit (2 : Nat)) ∧ ∃ D, a' = { a with defers := { target := .collected D, args := #[] } :: a.defers } ∧ R D W) a w)
    (hq : ∀ D W, R D W → Q .normal { a with defers := { target := .collected D, args := #[] } :: a.defers } W) : cd.wpIn F n P Q a w := by
  refine wpIn_mono h (fun e a' W he => ?_)
  obtain ⟨h1, D, rfl, h2⟩ := he
  rcases h1 with rfl | rfl
  · exact hq D W h2
  · exact hx _ _ (hq D W h2)
theorem Rd.own {β : Type} {B n : Nat} {W : World} (hn : W.heap.size ≤ n) : OwnFrom n (fun (_ : β) W' => Rd B W W') := by
  intro s X Y row h hg hr
  refine ⟨ownFrom_keepsFrom (β := β) hn s X Y row h.f hg hr, h.k.trans (Keeps36.grown hg (fun r e c hh => ?_))⟩
  obtain ⟨_, o, ho, hc⟩ := hr r e
  rw [hh] at ho
  cases ho
  cases hc
theorem not_want {L pre : List Int} {x u : Int} (hp : pre <+: L) (hu : L[pre.length]? = some u) (hx : ¬ pre ++ [x] <+: L) : x ≠ u := by
  intro e
  obtain ⟨t, rfl⟩ := hp
  apply hx
  rw [List.getElem?_append_right (Nat.le_refl _), Nat.sub_self] at hu
  cases t with
  | nil => simp at hu
  | cons y t =>
    simp at hu
    subst hu
    subst e
    exact ⟨t, by simp⟩
theorem get_lt {L : List Int} {j : Nat} (h : j < L.length) : ∃ u, L[j]? = some u := ⟨_, List.getElem?_eq_getElem h⟩
theorem good_fine {l : List S36} (h : SpanFns.Good l) : Fine (prs l) := by
  obtain ⟨h1, h2, h3⟩ := h
  refine ⟨by rw [prs_len]; exact h1, fun k hk => ?_⟩
  rw [prs_len] at hk
  rw [prs_at hk]
  have hm := List.getElem_mem hk
  exact ⟨(h3 _ hm).1, h2.2 _ hm, (h3 _ hm).2⟩
theorem St.add {w W : World} {bs L : List (Nat × Obj)} (h : St w bs W) (hL : ∀ x ∈ L, W.heap[x.1]? = some x.2) : St w (L ++ bs) W :=
  ⟨fun x hx => (List.mem_append.1 hx).elim (hL x) (h.b x), h.bel⟩
abbrev inB (A0 A1 A2 : Option Addr) (n0 n1 n2 c0 c1 c2 : Nat) (pa nn : Int) : Obj := .cells #[.slice A0 n0 c0, .slice A1 n1 c1, .slice A2 n2 c2, .int .i64 pa, .int .i64 nn] 25 (0, 0)
def kOf (n : Int) : Int := min (max n 1) 60
theorem kOf_bd (n : Int) : 1 ≤ kOf n ∧ kOf n ≤ 60 := by unfold kOf; omega
set_option maxRecDepth 100000 in
set_option maxHeartbeats 8000000 in
theorem again_calls {w : World} {A0 A1 A2 : Option Addr} {c0 c1 c2 : Nat} {l0 l1 : List S36} {l2 : List Int} {pa nn : Int} (hr0 : Kd.C k36 w A0 l0.length l0) (hc0 : l0.length ≤ c0) {k : Nat} {p : List S36} (hk : redraftlaw02_right.f k l0 = some p) (hp1 : p.length ≤ 32768) (hp2 : ∀ r ∈ p, Part r) :
    Calls Try.prog 4 #[.agg #[.slice A0 l0.length c0, .slice A1 l1.length c1, .slice A2 l2.length c2, .int .i64 pa, .int .i64 nn]] w fun e w' => e = .returned (.bool true) ∧ Below w.heap.size w w' := by
  obtain ⟨l, hl⟩ : ∃ l, l = ofParts p := ⟨_, rfl⟩
  have hG : SpanFns.Good l := by rw [hl]; exact ofParts_good hp1 hp2
  have hMk : span_Make.f p = some (l, 0) := by rw [Make_f, makeA_good hp1 hp2, hl]
  have hps : Short p := by show p.length < _; omega
  have hls : Short l := hG.short
  have hCp : redraftlaw02_copied.f p = some p := copied_f hps
  have hCl : redraftlaw02_copied.f l = some l := copied_f hls
  obtain ⟨ka, hka⟩ := awake_ev.rounds
  obtain ⟨kv, hkv⟩ : ∃ kv, kv = kOf nn := ⟨_, rfl⟩
  have hkb : 1 ≤ kv ∧ kv ≤ 60 := by rw [hkv]; exact kOf_bd nn
  obtain ⟨kf, hkf⟩ := (First_ev hls (a := kv) (by omega)).rounds
  have hgv : given l = spans (prs l) := by rw [given, if_pos (checkS_good.2 hG), places_eq]
  rw [hgv] at hkf
  obtain ⟨wl, hwl⟩ : ∃ wl, wl = (spans (prs l)).take kv.toNat := ⟨_, rfl⟩
  rw [← hwl] at hkf
  have HWL := Lib.hid hwl
  clear hwl
  have hCk : span_Check.f (2 * l.length + 1) l = some (checkS l) := Check_f hls (Nat.le_refl _)
  have hc2' : (checkS l).2 = 0 := checkS_good.2 hG
  obtain ⟨⟨r1, r2⟩, hrr⟩ : ∃ q, q = checkS l := ⟨_, rfl⟩
  rw [← hrr] at hCk hc2'
  dsimp only at hc2'
  subst hc2'
  have HK := Lib.hid (And.intro hk (And.intro hMk (And.intro hCp (And.intro hCl (And.intro hka (And.intro hkf hCk))))))
  have HKV := Lib.hid hkv
  have mx : min (max nn 1) 60 = kv := hkv.symm
  clear hk hMk hCp hCl hka hkf hCk hrr hl hgv hp1 hp2 hkv
  refine (callsIn_wide (n := 8)).1 ?_
  refine callsIn_of_wp_marks Try.func4 rfl trivial ?_ rfl
  simp only [Try.ntmps4, List.size_toArray, List.length_cons, List.length_nil, Nat.reduceAdd, Nat.reduceSub, Array.replicate_succ, Array.replicate_zero, List.push_toArray, List.append_toArray, List.nil_append, List.cons_append]
  refine wpIn_wide.2 ?_
  have S0 : St w [(w.heap.size + 1, bx 4 (.bool false)), (w.heap.size, inB A0 A1 A2 l0.length l1.length l2.length c0 c1 c2 pa nn)] ((w.alloc (.cells #[.slice A0 l0.length c0, .slice A1 l1.length c1, .slice A2 l2.length c2, .int .i64 pa, .int .i64 nn] 25)).alloc (.cells #[.bool false] 4)) := by
    have h0 : St w [] w := ⟨fun x hx => (by cases hx), Below.refl _ _⟩
    have h1 := (h0.box (inB A0 A1 A2 l0.length l1.length l2.length c0 c1 c2 pa nn)).box (bx 4 (.bool false))
    rwa [World.size_alloc] at h1
  have tok : True := trivial
  go_wp2_with (first
    | (go_at_call 18; refine (redraftlaw02_right.calls k A0 c0 l0 p _ (Kd.C_below hr0 S0.bel) hc0 HK.out.1).mono ?_; rintro e w1 ⟨v1, rfl, hR1, hb1⟩; have S1 := S0.below hb1; have hx1 := blk_of_R hR1; obtain ⟨A3, c3, L3, hv1, hc3, hC3, hL3, hm3⟩ := hx1; subst hv1; clear S0 hR1 hL3 hm3)
    | (go_at_call 17; clear tok; refine (redraftlaw02_copied.calls A3 c3 p p w1 hC3 hc3 HK.out.2.2.1).mono ?_; rintro e w2 ⟨v2, rfl, hR2, hb2⟩; have S2 := S1.below hb2; have hx2 := blk_of_R hR2; obtain ⟨A4, c4, L4, hv2, hc4, hC4, hL4, hm4⟩ := hx2; subst hv2; clear S1 hR2 hL4 hm4 hC3)
    | (go_at_call 16; refine (span_Make.calls A4 c4 p l 0 w2 hC4 hc4 HK.out.2.1).mono ?_; rintro e w3 ⟨v3, rfl, hR3, hb3⟩; have hx3 := blk_of_R hR3; obtain ⟨A5, c5, L5, hv3, hc5, hC5, hL5, hm5⟩ := hx3; subst hv3; have S3 := (S2.below hb3).add (fun x hx => (hL5 x hx).1); have HA := Lib.hid (fun (W' : World) (h : ∀ x ∈ L5, W'.heap[x.1]? = some x.2) => C_36_move hC5 (hm5 W' h)); clear S2 hR3 hC4 hC5 hm5)
    | (go_at_call 19; refine (redraftlaw02_num.calls 0 0 w3 (num_f 0)).mono ?_; rintro e w4 ⟨rfl, ⟨nd, rfl⟩⟩; have S4 := S3.below (pw_below_drewN (Below.refl w3.heap.size w3) nd); clear S3)
    | (go_at_call 20; refine (redraftlaw02_awake.calls ka true _ HK.out.2.2.2.2.1).mono ?_; rintro e w5 ⟨rfl, hb5⟩; have S5 := S4.below hb5; have y4 : w5.cell? ⟨w.heap.size, 4, none⟩ = some (.int .i64 nn) := (by have := S5.b (w.heap.size, inB A0 A1 A2 l0.length l1.length l2.length c0 c1 c2 pa nn) (by simp); simp [World.cell?, this]); clear S4)
    | (go_at_call 26; have S6 := S5.box (bx 3 (.int .i64 kv)); refine (redraftref02_First.calls kf A5 c5 l kv _ _ (HA.out _ (fun x hx => S6.b x (List.mem_cons_of_mem _ (List.mem_append_left _ hx)))) hc5 HK.out.2.2.2.2.2.1).mono ?_; rintro e w7 ⟨v7, rfl, hR7, hb7⟩; have hx7 := blk_of_R hR7; obtain ⟨A7, c7, L7, hv7, hc7, hC7, hL7, hm7⟩ := hx7; subst hv7; have S7 := (S6.below hb7).add (fun x hx => (hL7 x hx).1); have HWt := Lib.hid (fun (W' : World) (h : ∀ x ∈ L7, W'.heap[x.1]? = some x.2) => C_int_move hC7 (hm7 W' h)); clear S5 S6 hR7 hC7 hm7)
    | (go_at_call 17; have S8 := S7.box (bx 23 (.slice A7 wl.length c7)); refine (redraftlaw02_copied.calls A5 c5 l l _ (HA.out _ (fun x hx => S8.b x (List.mem_cons_of_mem _ (List.mem_append_right _ (List.mem_cons_of_mem _ (List.mem_append_left _ hx)))))) hc5 HK.out.2.2.2.1).mono ?_; rintro e w8 ⟨v8, rfl, hR8, hb8⟩; have hx8 := blk_of_R hR8; obtain ⟨A8, c8, L8, hv8, hc8, hC8, hL8, hm8⟩ := hx8; subst hv8; have S9 := S8.below hb8; have HB8 := Lib.hid (fun x hx => (Array.getElem?_eq_some_iff.1 (S8.b x hx)).1); have hmi := mine_at hR8; clear S7 S8)
    | (go_at_call 27; refine (Each_fresh (2 * l.length + 1) A8 c8 l r1 0 w8 hC8 hc8 (fun _ => hG.1) HK.out.2.2.2.2.2.2).mono ?_; rintro e w9 ⟨sv, rfl, hlt9, hcs9, ⟨hRg9, hfr9⟩, hb9⟩; rw [if_pos rfl] at hRg9; have hx9 := blk_of_ranges hRg9 hfr9; obtain ⟨L9, hL9, hm9⟩ := hx9; have hxa := blk_of_cell hcs9; obtain ⟨oS, hoS, hcS, hmS⟩ := hxa))
  have S11 := (((S9.below hb9).add (fun x hx => (hL9 x hx).1)).add (L := [(w8.heap.size, oS)]) (fun x hx => by rw [List.mem_singleton.1 hx]; exact hoS)).box (bx 43 (.func (.func 55) #[] #[.pointer (some ⟨w8.heap.size, 0, none⟩)]))
  have HBS := S11.bel.size
  obtain ⟨BS, hBS⟩ : ∃ BS, BS = (w9.heap.size, bx 43 (.func (.func 55) #[] #[.pointer (some ⟨w8.heap.size, 0, none⟩)])) :: ([(w8.heap.size, oS)] ++ (L9 ++ ((w7.heap.size, bx 23 (.slice A7 wl.length c7)) :: (L7 ++ (w5.heap.size, bx 3 (.int .i64 kv)) :: (L5 ++ [(w.heap.size + 1, bx 4 (.bool false)), (w.heap.size, inB A0 A1 A2 l0.length l1.length l2.length c0 c1 c2 pa nn)]))))) := ⟨_, rfl⟩
  rw [← hBS] at S11
  have hM11 : Mine A8 l.length BS w.heap.size (w9.alloc (bx 43 (.func (.func 55) #[] #[.pointer (some ⟨w8.heap.size, 0, none⟩)]))) := by
    rcases hmi with h | ⟨g, cur, h1, h2, h3, h4⟩
    · exact .inl h
    · have hg := (Array.getElem?_eq_some_iff.1 h3).1
      have h9 := (hb9.block g hg).trans h3
      have hg9 := (Array.getElem?_eq_some_iff.1 h9).1
      refine .inr ⟨g, cur, h1, (Below.heap_alloc w9 _ g hg9).trans h9, h4, fun x hx => ?_, ?_⟩
      · rw [hBS] at hx
        rcases List.mem_cons.1 hx with rfl | hx
        · show w9.heap.size ≠ g; omega
        · rcases List.mem_append.1 hx with hx | hx
          · rw [List.mem_singleton.1 hx]; show w8.heap.size ≠ g; omega
          · rcases List.mem_append.1 hx with hx | hx
            · have := (hL9 x hx).2.2; omega
            · have := HB8.out x hx; omega
      · have := HB8.out (w.heap.size, inB A0 A1 A2 l0.length l1.length l2.length c0 c1 c2 pa nn) (by simp)
        dsimp only at this
        omega
  have hcl : ∀ x ∈ BS, x.2.isCells = true := by
    intro x hx
    rw [hBS] at hx
    rcases List.mem_cons.1 hx with rfl | hx
    · rfl
    · rcases List.mem_append.1 hx with hx | hx
      · rw [List.mem_singleton.1 hx]; exact hcS
      · rcases List.mem_append.1 hx with hx | hx
        · exact (hL9 x hx).2.1
        · rcases List.mem_cons.1 hx with rfl | hx
          · rfl
          · rcases List.mem_append.1 hx with hx | hx
            · exact (hL7 x hx).2.1
            · rcases List.mem_cons.1 hx with rfl | hx
              · rfl
              · rcases List.mem_append.1 hx with hx | hx
                · exact (hL5 x hx).2.1
                · simp only [List.mem_cons, List.not_mem_nil, or_false] at hx
                  rcases hx with rfl | rfl <;> rfl
  have mE : (w9.heap.size, bx 43 (.func (.func 55) #[] #[.pointer (some ⟨w8.heap.size, 0, none⟩)])) ∈ BS := by rw [hBS]; exact List.mem_cons_self
  have mS : (w8.heap.size, oS) ∈ BS := by rw [hBS]; simp
  have m9 : ∀ x ∈ L9, x ∈ BS := fun x hx => by rw [hBS]; exact List.mem_cons_of_mem _ (List.mem_append_right _ (List.mem_append_left _ hx))
  have mW : (w7.heap.size, bx 23 (.slice A7 wl.length c7)) ∈ BS := by rw [hBS]; simp
  have m7 : ∀ x ∈ L7, x ∈ BS := fun x hx => by rw [hBS]; exact List.mem_cons_of_mem _ (List.mem_append_right _ (List.mem_append_right _ (List.mem_cons_of_mem _ (List.mem_append_left _ hx))))
  have mK : (w5.heap.size, bx 3 (.int .i64 kv)) ∈ BS := by rw [hBS]; simp
  have m5 : ∀ x ∈ L5, x ∈ BS := fun x hx => by rw [hBS]; exact List.mem_cons_of_mem _ (List.mem_append_right _ (List.mem_append_right _ (List.mem_cons_of_mem _ (List.mem_append_right _ (List.mem_cons_of_mem _ (List.mem_append_left _ hx))))))
  have mR : (w.heap.size + 1, bx 4 (.bool false)) ∈ BS := by rw [hBS]; simp
  clear hmi HB8 hL9 hL7 hL5 hL8 hm8 hC8 hR8 hc8 S9 hb8 hb7 hb5 hb1 hb2 hb3 hoS hcs9 hRg9 hfr9 hlt9 y4 hBS HBS
  go_loopw [9] (fun v9 wr => ∃ i : Nat, i ≤ l.length ∧ v9 = .int .i64 (i : Int) ∧ St w BS wr ∧ Mine A8 l.length BS w.heap.size wr) (fun v9 _ => l.length - (intOf v9).toNat)
  case atStart => exact ⟨0, Nat.zero_le _, rfl, S11, hM11⟩
  case round =>
    obtain ⟨i, hi, rfl, hs, hM⟩ := hrel
    clear S11 hM11
    by_cases hlt : i < l.length
    · rcases hM with h0 | ⟨g, cur, hA, hh, hsz, hne, hwg⟩
      · omega
      subst hA
      have hl3 : l.length ≤ 32768 := hG.1
      have ib : (i : Int) ≤ 32768 := by omega
      have p2 : (0 ≤ (i : Int)) = True := eq_true (by omega)
      have p3 : ((i : Int) < (l.length : Int)) = True := eq_true (by omega)
      have dl : decide (i < l.length) = true := decide_eq_true hlt
      obtain ⟨⟨x0, k0⟩, k1, ⟨x1, k2⟩, k3, hs2, hM2⟩ := Mine.step (m := l.length) hs rfl hh hsz hne hwg hlt (.int .i64 (i : Int)) (.int .i64 ((i : Int) + 1))
      have HF := Lib.hid (And.intro hs2 hM2)
      clear hs2 hM2 hs hh hne
      go_wp2
      go_roundw
      case rel => exact ⟨i + 1, hlt, by go_num, HF.out.1, HF.out.2⟩
      case measure => simp [intOf]; omega
    · obtain rfl : i = l.length := by omega
      have dl : decide (l.length < l.length) = false := decide_eq_false (Nat.lt_irrefl _)
      clear hM hlt hi
      have hne : ∀ x ∈ BS, x.1 ≠ wr.heap.size := fun x hx => by have := (Array.getElem?_eq_some_iff.1 (hs.b x hx)).1; omega
      have hS12 := hs.box (bx 3 (.int .i64 0))
      have hs12 : (wr.alloc (bx 3 (.int .i64 0))).heap.size = wr.heap.size + 1 := by simp
      have hwr := hs.bel.size
      have yE := hS12.cell (List.mem_cons_of_mem _ mE)
      clear hs
      go_wp2
      generalize wr.alloc (bx 3 (.int .i64 0)) = W0 at hS12 hs12 yE ⊢
      generalize wr.heap.size = nN at hS12 hs12 hne hwr ⊢
      have hz := good_fine hG
      obtain ⟨L, hL⟩ : ∃ L, L = spans (prs l) := ⟨_, rfl⟩
      obtain ⟨kn, hkn⟩ : ∃ kn : Nat, kv = (kn : Int) := ⟨kv.toNat, by omega⟩
      have hwl : wl = L.take kn := by rw [HWL.out, hL, hkn]; rfl
      have hk0 : 0 < kn ∧ kn ≤ 60 := by omega
      have hwn : wl.length ≤ 60 := by rw [hwl, List.length_take]; omega
      have mEc := hcl
      have HMS := Lib.hid (fun (W : World) (bs : List (Nat × Obj)) (h : St w (bs ++ BS) W) => (⟨(Array.getElem?_eq_some_iff.1 (h.b (w8.heap.size, oS) (List.mem_append_right _ mS))).1, hmS W (h.b (w8.heap.size, oS) (List.mem_append_right _ mS)), hm9 W (fun x hx => h.b x (List.mem_append_right _ (m9 x hx)))⟩ : w8.heap.size < W.heap.size ∧ W.cell? ⟨w8.heap.size, 0, none⟩ = some sv ∧ Ranges W sv (prs l)))
      have HWC := Lib.hid (fun (W : World) (bs : List (Nat × Obj)) (h : St w (bs ++ BS) W) => HWt.out W (fun x hx => h.b x (List.mem_append_right _ (m7 x hx))))
      have HAC := Lib.hid (fun (W : World) (bs : List (Nat × Obj)) (h : St w (bs ++ BS) W) => HA.out W (fun x hx => h.b x (List.mem_append_right _ (m5 x hx))))
      have HWLE := Lib.hid hwl
      have HL := Lib.hid hL
      have HKN := Lib.hid hkn
      clear hmS hm9 HWt HA HWL mS m9 m7 m5 hL hwl hcS mEc hkn mx hkb
      refine wpIn_wide (n := 8).1 ?_
      refine range_join2 (R := fun D W => W0.heap.size ≤ D ∧ W.heap[D]? = some (.deferred (some [])) ∧ St w ((nN, bx 3 (.int .i64 (wl.length : Int))) :: BS) W) (fun _ _ h => by simpa [Exit.inBlock] using h) ?range ?after
      case range =>
        have hm0 := HMS.out W0 [(nN, bx 3 (.int .i64 0))] hS12
        refine' range_H0 (F := Fence.wide) (n := 8) rfl (by omega) (gf := 55) (lb := #[.pointer (some ⟨w8.heap.size, 0, none⟩)]) rfl trivial (enters_of Try.func55 (by kernel_rfl) rfl)
          (each_stops Fence.wide 7 trivial rfl (by omega) w8.heap.size sv (prs l) hz W0 hm0.1 hm0.2.1 hm0.2.2) Keeps36.refl (fun h k => h.trans k) (fun W l o o' _ h hc _ => keeps36_b W l o o' h hc) (fun _ => rfl)
          (fun (pre : List Int) W => pre.length < kn ∧ pre <+: L ∧ St w ((nN, bx 3 (.int .i64 (pre.length : Int))) :: BS) W)
          (fun cd (pre : List Int) W => ¬ pre <+: L ∨ (cd = .exit 2 ∧ pre.length = kn ∧ St w ((nN, bx 3 (.int .i64 (pre.length : Int))) :: BS) W))
          ?hI ?hIx ⟨hk0.1, List.nil_prefix, hS12⟩ _ ?assign ?body ?done ?stop
        case assign =>
          intro lr x W K hK
          simp only [List.zip_toArray, List.zip_cons_cons, List.zip_nil_right, List.zip_nil_left, List.foldl_toArray, List.foldl_toArray', List.size_toArray, List.length_cons, List.length_nil, List.foldl_cons, List.foldl_nil, List.setIfInBounds_toArray, List.set_cons_succ, List.set_cons_zero]
          gi_wp2
          exact hK
        case hI =>
          rintro pre X Y row ⟨h1, h2, hs⟩ hg hr
          exact ⟨h1, h2, St.own (β := Unit) (fun x hx => by
            rcases List.mem_cons.1 hx with rfl | hx
            · rfl
            · exact hcl x hx) (by omega) () X Y row hs hg hr⟩
        case hIx =>
          rintro cd pre X Y row h hg hr
          rcases h with h | ⟨h1, h2, hs⟩
          · exact .inl h
          · exact .inr ⟨h1, h2, St.own (β := Unit) (fun x hx => by
              rcases List.mem_cons.1 hx with rfl | hx
              · rfl
              · exact hcl x hx) (by omega) () X Y row hs hg hr⟩
        case body =>
          rintro lr r pre x W hlr hr ⟨hlt, hpf, hs⟩ hlen
          rw [← HL.out] at hlen
          have c10 := hs.cell List.mem_cons_self
          have f10 := hs.frozen List.mem_cons_self
          have c6 := hs.cell (List.mem_cons_of_mem _ mW)
          have c5' := hs.cell (List.mem_cons_of_mem _ mK)
          have cE := hs.cell (List.mem_cons_of_mem _ mE)
          have c4' := hs.cell (List.mem_cons_of_mem _ mR)
          have f4' := hs.frozen (List.mem_cons_of_mem _ mR)
          have hWC := HWC.out W [(nN, bx 3 (.int .i64 (pre.length : Int)))] hs
          have hjw : pre.length < wl.length := by rw [HWLE.out, List.length_take]; omega
          have hLT := hlt
          have HS := Lib.hid hs
          have HPF := Lib.hid hpf
          have HLT := Lib.hid hlt
          have HLEN := Lib.hid hlen
          have HR := Lib.hid hr
          by_cases hx : pre ++ [x] <+: L
          · have hwx := (want_at hx hlt).1
            rw [← HWLE.out] at hwx
            obtain ⟨ad, hAd, r0⟩ := int_cell hWC hwx
            clear hWC hwx hLT
            have HX := Lib.hid hx
            obtain ⟨j, hj⟩ : ∃ j, j = pre.length := ⟨_, rfl⟩
            rw [← hj] at c10 r0 hjw
            have HJ := Lib.hid hj
            have hjk : j < kn := by omega
            have hjL : j + 1 ≤ L.length := by omega
            clear hs hpf hlt hlen hr hx hj
            subst hAd
            have jb : (j : Int) ≤ 60 := by omega
            have d0 : decide (wl.length ≤ j) = false := decide_eq_false (by omega)
            have q2 : ((j : Int) < (wl.length : Int)) = True := eq_true (by omega)
            have q3 : (0 ≤ (j : Int)) = True := eq_true (by omega)
            have q4 : (x != x) = false := bne_self_eq_false x
            have hS1 : St w ((nN, bx 3 (.int .i64 ((j : Int) + 1))) :: BS) (W.setCell ⟨nN, 0, none⟩ (.int .i64 ((j : Int) + 1))) := HS.out.set hne (by omega) _
            have R1 := Rd.set W0.heap.size (HS.out.b (nN, bx 3 (.int .i64 (pre.length : Int))) List.mem_cons_self) (by decide) (.int .i64 ((j : Int) + 1))
            have hr1 := (KeepsOthers.setCell W ⟨nN, 0, none⟩ (.int .i64 ((j : Int) + 1))).same _ _ HR.out rfl
            have hS2 := hS1.box (bx 3 (.int .i64 0))
            have R2 := R1.trans (Rd.alloc W0.heap.size (W.setCell ⟨nN, 0, none⟩ (.int .i64 ((j : Int) + 1))) (bx 3 (.int .i64 0)))
            have hr2 := (KeepsOthers.alloc (W.setCell ⟨nN, 0, none⟩ (.int .i64 ((j : Int) + 1))) (bx 3 (.int .i64 0))).same _ _ hr1 rfl
            have hz2 : ((W.setCell ⟨nN, 0, none⟩ (.int .i64 ((j : Int) + 1))).alloc (bx 3 (.int .i64 0))).heap.size = W.heap.size + 1 := by simp [World.setCell]
            have hsz1 : (W.setCell ⟨nN, 0, none⟩ (.int .i64 ((j : Int) + 1))).heap.size = W.heap.size := by simp [World.setCell]
            rw [hsz1] at hS2
            have hlW : ∀ y ∈ BS, y.1 < W.heap.size := fun y hy => (Array.getElem?_eq_some_iff.1 (HS.out.b y (List.mem_cons_of_mem _ hy))).1
            have hnW : nN < W.heap.size := (Array.getElem?_eq_some_iff.1 (HS.out.b (nN, bx 3 (.int .i64 (pre.length : Int))) List.mem_cons_self)).1
            have yE2 := hS2.cell (List.mem_cons_of_mem _ (List.mem_cons_of_mem _ mE))
            clear hS1 R1 hr1
            gi_wp2
            generalize (W.setCell ⟨nN, 0, none⟩ (.int .i64 ((j : Int) + 1))).alloc (bx 3 (.int .i64 0)) = W2 at hS2 R2 hr2 hz2 yE2 ⊢
            generalize hnI : W.heap.size = nI at hS2 hz2 hlW hnW ⊢
            clear yE2
            have hwW : w.heap.size ≤ nI := by rw [← hnI]; exact HS.out.bel.size
            have hm2 := HMS.out W2 [(nI, bx 3 (.int .i64 0)), (nN, bx 3 (.int .i64 ((j : Int) + 1)))] hS2
            have hk' : List.nil <+: L := List.nil_prefix
            refine' range_N0 (F := Fence.wide.inRound lr) (n := 6) (l₀ := lr) (r₀ := r) rfl hr2 (by omega) (gf := 55) (lb := #[.pointer (some ⟨w8.heap.size, 0, none⟩)]) rfl trivial (enters_of Try.func55 (by kernel_rfl) rfl)
              ((each_stops Fence.wide 5 trivial rfl (by omega) w8.heap.size sv (prs l) hz W2 hm2.1 hm2.2.1 hm2.2.2).inRound lr) Keeps36.refl (fun h k => h.trans k) (fun W l o o' _ h hc _ => keeps36_b W l o o' h hc) (fun _ => rfl)
              (fun (pr2 : List Int) W' => pr2.length < j + 1 ∧ pr2 <+: L ∧ St w ((nI, bx 3 (.int .i64 (pr2.length : Int))) :: (nN, bx 3 (.int .i64 ((j : Int) + 1))) :: BS) W' ∧ Rd W0.heap.size W W')
              (fun cd (pr2 : List Int) W' => ¬ pr2 <+: L ∨ (cd = .exit 4 ∧ pr2.length = j + 1 ∧ St w ((nI, bx 3 (.int .i64 (pr2.length : Int))) :: (nN, bx 3 (.int .i64 ((j : Int) + 1))) :: BS) W' ∧ Rd W0.heap.size W W'))
              ?hI2 ?hIx2 ⟨Nat.succ_pos _, hk', hS2, R2⟩ _ ?assign2 ?body2 ?done2 ?stop2
            case assign2 =>
              intro l2 y W' K hK
              simp only [List.zip_toArray, List.zip_cons_cons, List.zip_nil_right, List.zip_nil_left, List.foldl_toArray, List.foldl_toArray', List.size_toArray, List.length_cons, List.length_nil, List.foldl_cons, List.foldl_nil, List.setIfInBounds_toArray, List.set_cons_succ, List.set_cons_zero]
              gi_wp2
              exact hK
            case hI2 =>
              rintro pr2 X Y row ⟨h1, h2, hs, hd⟩ hg hr
              exact ⟨h1, h2, St.own (β := Unit) (fun x hx => by
                rcases List.mem_cons.1 hx with rfl | hx
                · rfl
                · rcases List.mem_cons.1 hx with rfl | hx
                  · rfl
                  · exact hcl x hx) (by omega) () X Y row hs hg hr, Rd.own (β := Unit) (by omega) () X Y row hd hg hr⟩
            case hIx2 =>
              rintro cd pr2 X Y row h hg hr
              rcases h with h | ⟨h1, h2, hs, hd⟩
              · exact .inl h
              · exact .inr ⟨h1, h2, St.own (β := Unit) (fun x hx => by
                  rcases List.mem_cons.1 hx with rfl | hx
                  · rfl
                  · rcases List.mem_cons.1 hx with rfl | hx
                    · rfl
                    · exact hcl x hx) (by omega) () X Y row hs hg hr, Rd.own (β := Unit) (by omega) () X Y row hd hg hr⟩
            case body2 =>
              rintro l2 pr2 y W' hl2 ⟨hlt2, hpf2, hs2, hd2⟩ hlen2
              rw [← HL.out] at hlen2
              have b12 := hs2.cell List.mem_cons_self
              have bf12 := hs2.frozen List.mem_cons_self
              have b10 := hs2.cell (List.mem_cons_of_mem _ List.mem_cons_self)
              have b6 := hs2.cell (List.mem_cons_of_mem _ (List.mem_cons_of_mem _ mW))
              have b4 := hs2.cell (List.mem_cons_of_mem _ (List.mem_cons_of_mem _ mR))
              have bf4 := hs2.frozen (List.mem_cons_of_mem _ (List.mem_cons_of_mem _ mR))
              have hWC2 := HWC.out W' [(nI, bx 3 (.int .i64 (pr2.length : Int))), (nN, bx 3 (.int .i64 ((j : Int) + 1)))] hs2
              have hlt3 : pr2.length < kn := by omega
              have HS2 := Lib.hid hs2
              have HD2 := Lib.hid hd2
              have HPF2 := Lib.hid hpf2
              by_cases hy : pr2 ++ [y] <+: L
              · have hwy := (want_at hy hlt3)
                rw [← HWLE.out] at hwy
                obtain ⟨ae, hAe, s0⟩ := int_cell hWC2 hwy.1
                have hmw := hwy.2
                have HY := Lib.hid hy
                obtain ⟨m, hm⟩ : ∃ m, m = pr2.length := ⟨_, rfl⟩
                rw [← hm] at b12 s0 hmw hlt2
                have HM := Lib.hid hm
                have mb : (m : Int) ≤ 60 := by omega
                have e0 : decide (wl.length ≤ m) = false := decide_eq_false (by omega)
                have e2 : ((m : Int) < (wl.length : Int)) = True := eq_true (by omega)
                have e3 : (0 ≤ (m : Int)) = True := eq_true (by omega)
                have e4 : (y != y) = false := bne_self_eq_false y
                have hS3 : St w ((nI, bx 3 (.int .i64 ((m : Int) + 1))) :: (nN, bx 3 (.int .i64 ((j : Int) + 1))) :: BS) (W'.setCell ⟨nI, 0, none⟩ (.int .i64 ((m : Int) + 1))) := HS2.out.set (fun z hz => by
                  rcases List.mem_cons.1 hz with rfl | hz
                  · show nN ≠ nI; omega
                  · have := hlW z hz; omega) (by omega) _
                have R3 : Rd W2.heap.size W' (W'.setCell ⟨nI, 0, none⟩ (.int .i64 ((m : Int) + 1))) := Rd.set W2.heap.size (HS2.out.b (nI, bx 3 (.int .i64 (pr2.length : Int))) List.mem_cons_self) (by decide) _
                have R4 : Rd W0.heap.size W (W'.setCell ⟨nI, 0, none⟩ (.int .i64 ((m : Int) + 1))) := HD2.out.trans (Rd.set W0.heap.size (HS2.out.b (nI, bx 3 (.int .i64 (pr2.length : Int))) List.mem_cons_self) (by decide) _)
                have g12 := hS3.cell List.mem_cons_self
                have g10 := hS3.cell (List.mem_cons_of_mem _ List.mem_cons_self)
                have HE := Lib.hid (And.intro hS3 (And.intro R3 R4))
                have HLT2 := Lib.hid hlt2
                clear hS3 R3 R4 hs2 hd2 hpf2 hy hwy hm hWC2 hlen2 hlt3 hmw hlt2
                injection hAe with hAe
                subst hAe
                by_cases hmj : m = j
                · subst hmj
                  have e5 : decide ((m : Int) + 1 ≤ (m : Int) + 1) = true := decide_eq_true (Int.le_refl _)
                  gi_wp2
                  exact ⟨HE.out.2.1.f, .inr ⟨rfl, by rw [List.length_append, ← HM.out]; rfl, by rw [List.length_append, ← HM.out]; exact HE.out.1, HE.out.2.2⟩⟩
                · have e5 : decide ((j : Int) + 1 ≤ (m : Int) + 1) = false := decide_eq_false (by have := HLT2.out; omega)
                  have e6 : decide (j ≤ m) = false := decide_eq_false (by have := HLT2.out; omega)
                  have e7 : decide ((j : Int) ≤ (m : Int)) = false := decide_eq_false (by have := HLT2.out; omega)
                  gi_wp2
                  exact ⟨HE.out.2.1.f, HE.out.2.1.k, by rw [List.length_append, ← HM.out]; have := HLT2.out; simp; omega, HY.out, by rw [List.length_append, ← HM.out]; exact HE.out.1, HE.out.2.2⟩
              · obtain ⟨v, hv⟩ := get_lt hlen2
                have hye := not_want hpf2 hv hy
                have hwv : wl[pr2.length]? = some v := by rw [HWLE.out, List.getElem?_take, if_pos hlt3]; exact hv
                obtain ⟨ae, hAe, s0⟩ := int_cell hWC2 hwv
                have hmw := (List.getElem?_eq_some_iff.1 hwv).1
                have HY := Lib.hid hy
                obtain ⟨m, hm⟩ : ∃ m, m = pr2.length := ⟨_, rfl⟩
                rw [← hm] at b12 s0 hmw
                have mb : (m : Int) ≤ 60 := by omega
                have e0 : decide (wl.length ≤ m) = false := decide_eq_false (by omega)
                have e2 : ((m : Int) < (wl.length : Int)) = True := eq_true (by omega)
                have e3 : (0 ≤ (m : Int)) = True := eq_true (by omega)
                have e4 : (y != v) = true := bne_iff_ne.2 hye
                have e5 : decide (y = v) = false := decide_eq_false hye
                have e6 : (y = v) = False := eq_false hye
                have e7 : (y == v) = false := beq_eq_false_iff_ne.2 hye
                clear hs2 hd2 hpf2 hy hwv hm hWC2 hlen2 hlt3 hmw hlt2 hv hye
                injection hAe with hAe
                subst hAe
                gi_wp2
                exact ⟨(KeepsOthers.setCell _ _ _).from _, .inl HY.out⟩
            case done2 =>
              rintro xs W' hxs ⟨h1, h2, _, _⟩
              rw [← HL.out] at hxs
              rw [hxs] at h1
              omega
            case stop2 =>
              rintro cd pr2 W' hp2 hx2
              rw [← HL.out] at hp2
              rcases hx2 with hx2 | ⟨rfl, hlen2, hs2, hd2⟩
              · exact absurd hp2 hx2
              · rw [hlen2] at hs2
                have b12 := hs2.cell List.mem_cons_self
                have b10 := hs2.cell (List.mem_cons_of_mem _ List.mem_cons_self)
                have b5 := hs2.cell (List.mem_cons_of_mem _ (List.mem_cons_of_mem _ mK))
                have ej : ((j + 1 : Nat) : Int) = (j : Int) + 1 := by omega
                rw [ej] at b12
                have e0 : (((j : Int) + 1) != ((j : Int) + 1)) = false := bne_self_eq_false _
                have hs3 : St w ((nN, bx 3 (.int .i64 ((pre ++ [x]).length : Int))) :: BS) W' := by
                  have e : ((pre ++ [x]).length : Int) = (j : Int) + 1 := by rw [List.length_append, ← HJ.out]; rfl
                  rw [e]
                  exact hs2.sub (fun z hz => List.mem_cons_of_mem _ hz)
                have el : (pre ++ [x]).length = j + 1 := by rw [List.length_append, ← HJ.out]; rfl
                have HE := Lib.hid (And.intro hs3 (And.intro hd2 el))
                clear hs2 hs3 hd2 hlen2 hp2 el
                by_cases hkj : j + 1 = kn
                · have e1 : decide (kv ≤ (j : Int) + 1) = true := decide_eq_true (by have := HKN.out; omega)
                  gi_wp2
                  exact ⟨HE.out.2.1.f, .inr ⟨rfl, by rw [HE.out.2.2]; exact hkj, HE.out.1⟩⟩
                · have e1 : decide (kv ≤ (j : Int) + 1) = false := decide_eq_false (by have := HKN.out; omega)
                  gi_wp2
                  exact ⟨HE.out.2.1.f, HE.out.2.1.k, by rw [HE.out.2.2]; omega, HX.out, HE.out.1⟩
          · obtain ⟨u, hu⟩ := get_lt hlen
            have hxe := not_want hpf hu hx
            have hwu : wl[pre.length]? = some u := by rw [HWLE.out, List.getElem?_take, if_pos hLT]; exact hu
            obtain ⟨ad, hAd, r0⟩ := int_cell hWC hwu
            clear hWC hwu hLT
            have HX := Lib.hid hx
            obtain ⟨j, hj⟩ : ∃ j, j = pre.length := ⟨_, rfl⟩
            rw [← hj] at c10 r0 hjw
            have hjk : j < kn := by omega
            clear hs hpf hlt hlen hr hx hj hu
            subst hAd
            have jb : (j : Int) ≤ 60 := by omega
            have d0 : decide (wl.length ≤ j) = false := decide_eq_false (by omega)
            have q2 : ((j : Int) < (wl.length : Int)) = True := eq_true (by omega)
            have q3 : (0 ≤ (j : Int)) = True := eq_true (by omega)
            have q4 : (x != u) = true := bne_iff_ne.2 hxe
            have q5 : decide (x = u) = false := decide_eq_false hxe
            have q6 : (x = u) = False := eq_false hxe
            have q7 : (x == u) = false := beq_eq_false_iff_ne.2 hxe
            clear hxe
            gi_wp2
            exact ⟨(KeepsOthers.setCell _ _ _).from _, .inl HX.out⟩
        case done =>
          rintro D xs W hD hxs ⟨hlt, hpf, hs⟩ hK
          have e : xs.length = wl.length := by rw [HWLE.out, List.length_take, HL.out, ← hxs]; omega
          exact ⟨.inl rfl, D, rfl, hD, hK, by rw [e] at hs; exact hs⟩
        case stop =>
          rintro D cd pre W hD hpf hx hK
          rw [← HL.out] at hpf
          rcases hx with hx | ⟨rfl, hlen, hs⟩
          · exact absurd hpf hx
          · have e : pre.length = wl.length := by
              have := hpf.length_le
              rw [HWLE.out, List.length_take]
              omega
            refine wpIn_exit ?_
            exact ⟨.inr rfl, D, rfl, hD, hK, by rw [e] at hs; exact hs⟩
      case after =>
        rintro D W ⟨hD, hK, hs⟩
        have c10 := hs.cell List.mem_cons_self
        have c6 := hs.cell (List.mem_cons_of_mem _ mW)
        have c8' := hs.cell (List.mem_cons_of_mem _ mE)
        have d0 : (wl.length == wl.length) = true := beq_self_eq_true _
        have hm := HMS.out W [(nN, bx 3 (.int .i64 (wl.length : Int)))] hs
        have hwh := whole_calls (c := c5) (HAC.out W [(nN, bx 3 (.int .i64 (wl.length : Int)))] hs) hz hm.1 hm.2.1 hm.2.2
        have HWH := Lib.hid hwh
        have HS := Lib.hid hs
        clear hwh hm hs
        go_wp2_with (go_at_call 28; refine HWH.out.mono ?_; rintro e w6 ⟨rfl, hb6⟩; have hs6 := HS.out.below hb6; have c4 := hs6.cell (List.mem_cons_of_mem _ mR); have f4 := hs6.frozen (List.mem_cons_of_mem _ mR))
        have hD6 : w6.heap[D]? = some (.deferred (some [])) := (hb6.block D (Array.getElem?_eq_some_iff.1 hK).1).trans hK
        have hK2 : (w6.setCell ⟨w.heap.size + 1, 0, none⟩ (.bool true)).heap[D]? = some (.deferred (some [])) := (KeepsOthers.setCell w6 ⟨w.heap.size + 1, 0, none⟩ (.bool true)).same _ _ hD6 rfl
        refine ⟨by simp, .inl ⟨_, _, rfl, run_takeDeferred hK2, ?_⟩⟩
        have b4 := Boxed.set (.bool true) (show Boxed w6 (w.heap.size + 1) 4 (.bool false) from hs6.b (w.heap.size + 1, bx 4 (.bool false)) (List.mem_cons_of_mem _ mR))
        have hnD : w.heap.size + 1 ≠ D := by
          intro e
          rw [← e] at hD6
          have := hs6.b (w.heap.size + 1, bx 4 (.bool false)) (List.mem_cons_of_mem _ mR)
          rw [show w6.heap[w.heap.size + 1]? = _ from this] at hD6
          cases hD6
        have b4' : Boxed ((w6.setCell ⟨w.heap.size + 1, 0, none⟩ (.bool true)).putObj D (.deferred none)) (w.heap.size + 1) 4 (.bool true) := (World.putObj_heap_other (fun e => hnD (by omega))).trans b4
        have c4'' := b4'.cell
        have hbel0 := hs6.bel.setCell (p := ⟨w.heap.size + 1, 0, none⟩) (by show w.heap.size ≤ w.heap.size + 1; omega) (.bool true)
        have hz0 := hbel0.size
        refine ⟨.bool true, ?_, rfl, ⟨hbel0.os, hbel0.tape, hbel0.output, Nat.le_trans hz0 (by simp), fun k hk => (World.putObj_heap_other (fun e => ?_)).trans (hbel0.block k hk)⟩⟩
        · simp [results, Try.results4, go_sem, c4'']
        · omega
end Go.Proofs.Ytmidiifgdloojaa.SpanEach
end
section
namespace Go.Proofs.Ytmidiifgdloojaa.SpanReads
open Go.RowKit Go.Proofs.YtmidiifgdloojaaR Go.Proofs.YtmidiifgdloojaaW.PrintWords Go.Proofs.Ytmidiifgdloojaa.Pr
abbrev SIn : Type := List S36 × List S36 × List Int × Int × Int
abbrev kIn : Kd SIn := Kd.pair (Kd.slice 36 k36) (Kd.pair (Kd.slice 36 k36) (Kd.pair (Kd.slice 3 (Kd.int .i64)) (Kd.pair (Kd.int .i64) (Kd.int .i64))))
theorem readsInts : Reads Try.prog 23 (Kd.slice 3 (Kd.int .i64)) (fun l => l.length * 8 ≤ 140737488351232 ∧ ∀ x ∈ l, (Lit.int .i64 x).wf = true) := reads_slice (by kernel_rfl) (by kernel_rfl) (by kernel_rfl) reads3
abbrev WfIn (x : SIn) : Prop := WfL x.1 ∧ WfL x.2.1 ∧ (x.2.2.1.length * 8 ≤ 140737488351232 ∧ ∀ y ∈ x.2.2.1, (Lit.int .i64 y).wf = true) ∧ (Lit.int .i64 x.2.2.2.1).wf = true ∧ (Lit.int .i64 x.2.2.2.2).wf = true
theorem reads25 : Reads Try.prog 25 (Kd.iso kIn (fun x : SIn => x)) WfIn := by
  have h4 : ReadsL Try.prog 4 [{ name := "N", type := 3, offset := 4, embedded := false, tag := "", pkgPath := "", byteOffset := 80 }] (Kd.int .i64) _ := readsL_one reads3 rfl (by kernel_rfl)
  have h3 : ReadsL Try.prog 3 [{ name := "At", type := 3, offset := 3, embedded := false, tag := "", pkgPath := "", byteOffset := 72 }, _] (Kd.pair (Kd.int .i64) (Kd.int .i64)) _ := readsL_cons reads3 rfl (by kernel_rfl) h4
  have h2 : ReadsL Try.prog 2 [{ name := "Places", type := 23, offset := 2, embedded := false, tag := "", pkgPath := "", byteOffset := 48 }, _, _] (Kd.pair (Kd.slice 3 (Kd.int .i64)) (Kd.pair (Kd.int .i64) (Kd.int .i64))) _ := readsL_cons readsInts rfl (by kernel_rfl) h3
  have h1 : ReadsL Try.prog 1 [{ name := "Others", type := 22, offset := 1, embedded := false, tag := "", pkgPath := "", byteOffset := 24 }, _, _, _] (Kd.pair (Kd.slice 36 k36) (Kd.pair (Kd.slice 3 (Kd.int .i64)) (Kd.pair (Kd.int .i64) (Kd.int .i64)))) _ := readsL_cons reads22 rfl (by kernel_rfl) h2
  have h0 : ReadsL Try.prog 0 [{ name := "Some", type := 22, offset := 0, embedded := false, tag := "", pkgPath := "", byteOffset := 0 }, _, _, _, _] kIn _ := readsL_cons reads22 rfl (by kernel_rfl) h1
  exact reads_struct (fun y => y) (fun _ => rfl) Try.underlying25 (by kernel_rfl) h0
theorem agg_of_cells {v a b c d e : Value} (h : v.cells.toList = [a, b, c, d, e]) : v = .agg #[a, b, c, d, e] := by
  cases v <;> simp [Value.cells] at h
  rename_i arr
  cases arr
  simp_all
theorem open25 {w : World} {x : SIn} {v : Value} (h : (Kd.iso kIn (fun x : SIn => x)).K w x v.cells.toList) : ∃ A0 c0 A1 c1 A2 c2, v = .agg #[.slice A0 x.1.length c0, .slice A1 x.2.1.length c1, .slice A2 x.2.2.1.length c2, .int .i64 x.2.2.2.1, .int .i64 x.2.2.2.2] ∧
    Kd.C k36 w A0 x.1.length x.1 ∧ x.1.length ≤ c0 ∧ Kd.C k36 w A1 x.2.1.length x.2.1 ∧ x.2.1.length ≤ c1 ∧ Kd.C (Kd.int .i64) w A2 x.2.2.1.length x.2.2.1 ∧ x.2.2.1.length ≤ c2 := by
  obtain ⟨_, _, hv, ⟨A0, c0, rfl, h1, h2⟩, _, _, rfl, ⟨A1, c1, rfl, h3, h4⟩, _, _, rfl, ⟨A2, c2, rfl, h5, h6⟩, _, _, rfl, rfl, rfl⟩ := h
  exact ⟨A0, c0, A1, c1, A2, c2, agg_of_cells hv, h2, h1, h4, h3, h6, h5⟩
end Go.Proofs.Ytmidiifgdloojaa.SpanReads
end
