/- Proved: bump then insert is insert then bump of the carried list; for all inputs. -/
import Derived.IntWalk
import Derived.Laws.IdiomCopy
import Derived.Sort.Grow
import Derived.Shelf.SlLaysF0
import Derived.Shelf.SlGeneric
import Derived.Ground.SlsfProg
import Derived.Test.YteeigokkafcaaaaDoorProg
import Derived.Shelf.SlSortCmp.WholeK
import Derived.Test.YteeigokkafcaaaaDoorClaimThrough2
section
namespace Go.Proofs.YteeigokkafcaaaaDoorRope
open Go.RowKit Go.Proofs.YteeigokkafcaaaaDoorW.PrintWords Go.Proofs.YteeigokkafcaaaaDoorW.PrintMore
set_option linter.unusedSimpArgs false
set_option linter.unusedVariables false
def vp (C : List (Int × Int)) (f : Nat) : Nat → List Nat
  | 0 => []
  | q + 1 => vp C f q ++ (if f ≤ q ∧ (C.getD q (0, 1)).2 = 0 then [q] else [])
theorem vp_mem {C : List (Int × Int)} {f : Nat} : ∀ {q p : Nat}, p ∈ vp C f q → f ≤ p ∧ p < q ∧ (C.getD p (0, 1)).2 = 0 := by
  intro q
  induction q with
  | zero => intro p h; simp [vp] at h
  | succ q ih =>
    intro p h
    rw [vp, List.mem_append] at h
    rcases h with h | h
    · have := ih h
      exact ⟨this.1, by omega, this.2.2⟩
    · by_cases c : f ≤ q ∧ (C.getD q (0, 1)).2 = 0
      · rw [if_pos c] at h
        obtain rfl : p = q := by simpa using h
        exact ⟨c.1, by omega, c.2⟩
      · rw [if_neg c] at h
        simp at h
theorem vp_none {C : List (Int × Int)} {f : Nat} : ∀ {q : Nat}, q ≤ f → vp C f q = [] := by
  intro q
  induction q with
  | zero => intro _; rfl
  | succ q ih =>
    intro h
    rw [vp, ih (by omega), if_neg (by omega)]
    rfl
theorem vp_more {C : List (Int × Int)} {f : Nat} (q : Nat) : ∀ n, ∃ Z, vp C f (q + n) = vp C f q ++ Z := by
  intro n
  induction n with
  | zero => exact ⟨[], by simp⟩
  | succ n ih =>
    obtain ⟨Z, hZ⟩ := ih
    exact ⟨Z ++ (if f ≤ q + n ∧ (C.getD (q + n) (0, 1)).2 = 0 then [q + n] else []), by rw [← Nat.add_assoc, vp, hZ, List.append_assoc]⟩
theorem At.get {C : List (Int × Int)} {a : Nat} {s : List (Int × Int)} (h : At C a s) {j : Nat} (hj : j < s.length) : C[a + j]? = some s[j] := by
  obtain ⟨X, Y, rfl, rfl⟩ := h
  rw [List.append_assoc, List.getElem?_append_right (by omega), Nat.add_sub_cancel_left, List.getElem?_append_left hj, List.getElem?_eq_getElem hj]
theorem vp_step {C : List (Int × Int)} {f a : Nat} {rs : List Int} {hid : Int} (h : At C a (rs.map (fun c => (c, hid)))) : ∀ j, j ≤ rs.length → vp C f (a + j) = vp C f a ++ (if hid = 0 then List.range' (a + (f - a)) (j - (f - a)) else []) := by
  intro j
  induction j with
  | zero => intro _; by_cases c : hid = 0 <;> simp [c]
  | succ j ih =>
    intro hj
    have hg := h.get (j := j) (by rw [List.length_map]; omega)
    rw [List.getElem_map] at hg
    have hd : (C.getD (a + j) (0, 1)).2 = hid := by rw [List.getD_eq_getElem?_getD, hg]; rfl
    rw [← Nat.add_assoc, vp, ih (by omega), hd, List.append_assoc]
    congr 1
    by_cases c : hid = 0
    · rw [if_pos c, if_pos c]
      by_cases d : f - a ≤ j
      · rw [if_pos ⟨by omega, c⟩, show j + 1 - (f - a) = (j - (f - a)) + 1 by omega, List.range'_concat]
        congr 2
        omega
      · rw [if_neg (by omega), show j + 1 - (f - a) = 0 by omega, show j - (f - a) = 0 by omega]
        rfl
    · rw [if_neg c, if_neg c, if_neg (fun e => c e.2)]
      rfl
theorem vp_split {C : List (Int × Int)} (f : Nat) : ∀ n, vp C 0 (f + n) = vp C 0 f ++ vp C f (f + n) := by
  intro n
  induction n with
  | zero => rw [Nat.add_zero, vp_none (Nat.le_refl f), List.append_nil]
  | succ n ih =>
    rw [← Nat.add_assoc, vp, ih, vp, List.append_assoc]
    congr 2
    by_cases c : (C.getD (f + n) (0, 1)).2 = 0
    · rw [if_pos ⟨by omega, c⟩, if_pos ⟨by omega, c⟩]
    · rw [if_neg (fun e => c e.2), if_neg (fun e => c e.2)]
theorem vp_len {C : List (Int × Int)} : ∀ q, q ≤ C.length → (vp C 0 q).length = vis (C.take q) := by
  intro q
  induction q with
  | zero => intro _; simp [vp, vis]
  | succ q ih =>
    intro hq
    rw [vp, List.length_append, ih (by omega), List.take_succ_eq_append_getElem (by omega), vis_append]
    congr 1
    have hd : C.getD q (0, 1) = C[q] := by rw [List.getD_eq_getElem?_getD, List.getElem?_eq_getElem (by omega)]; rfl
    rw [hd]
    by_cases c : C[q].2 = 0
    · rw [if_pos ⟨by omega, c⟩]
      simp [vis, c]
    · rw [if_neg (fun e => c e.2)]
      simp [vis, c]
def visR (C : List (Int × Int)) : List Int := (C.filter (fun c => c.2 == 0)).map (·.1)
def rnAt (C : List (Int × Int)) (p : Nat) : Int := (C.getD p (0, 0)).1
theorem vp_runes {C : List (Int × Int)} : ∀ q, q ≤ C.length → (vp C 0 q).map (rnAt C) = visR (C.take q) := by
  intro q
  induction q with
  | zero => intro _; simp [vp, visR]
  | succ q ih =>
    intro hq
    have hd : C.getD q (0, 1) = C[q] := by rw [List.getD_eq_getElem?_getD, List.getElem?_eq_getElem (by omega)]; rfl
    have hr : rnAt C q = C[q].1 := by rw [rnAt, List.getD_eq_getElem?_getD, List.getElem?_eq_getElem (by omega)]; rfl
    rw [vp, List.map_append, ih (by omega), List.take_succ_eq_append_getElem (by omega), hd]
    unfold visR
    rw [List.filter_append, List.map_append]
    congr 1
    by_cases c : C[q].2 = 0
    · rw [if_pos ⟨by omega, c⟩]
      simp [c, hr]
    · rw [if_neg (fun e => c e.2)]
      simp [c]
theorem vp_from {C : List (Int × Int)} {lo : Nat} (h : lo ≤ vis C) : vp C (nth0 C lo) C.length = (vp C 0 C.length).drop lo := by
  have h1 := nth0_le C lo
  have h2 := vp_split (C := C) (nth0 C lo) (C.length - nth0 C lo)
  rw [show nth0 C lo + (C.length - nth0 C lo) = C.length by omega] at h2
  have h3 := vp_len (C := C) (nth0 C lo) h1
  rw [vis_nth0 _ _ h] at h3
  rw [h2]
  exact (List.drop_left' h3).symm
theorem vp_from_runes {C : List (Int × Int)} {lo : Nat} (h : lo ≤ vis C) (m : Nat) : ((vp C (nth0 C lo) C.length).take m).map (rnAt C) = ((visR C).drop lo).take m := by
  rw [vp_from h, List.map_take, List.map_drop, vp_runes _ (Nat.le_refl _), List.take_length]
theorem visR_len (C : List (Int × Int)) : (visR C).length = vis C := by simp [visR, vis]
end Go.Proofs.YteeigokkafcaaaaDoorRope
end
section
namespace Go.Proofs.YteeigokkafcaaaaDoorRope
open Go.RowKit Go.Proofs.YteeigokkafcaaaaDoorW.PrintWords Go.Proofs.YteeigokkafcaaaaDoorW.PrintMore
set_option linter.unusedSimpArgs false
set_option linter.unusedVariables false
attribute [local go_sem] max2_int min2_int
structure KpI (B : Nat) (W W' : World) : Prop where
  bl : Below B W W'
  n : ∀ (k : Nat) (c : Array Value) (ty : Nat), ty = 153 ∨ ty = 113 ∨ ty = 3 ∨ ty = 128 → W.heap[k]? = some (Obj.cells c ty (0, 0)) → W'.heap[k]? = some (Obj.cells c ty (0, 0))
theorem KpB.kpi {B b : Nat} {W W' : World} (h : KpB B b W W') {c0 : Array Value} (hb : W.heap[b]? = some (Obj.cells c0 118 (0, 0))) : KpI B W W' :=
  ⟨h.bl, fun k c ty hty hk => h.cells hk (by rcases hty with rfl | rfl | rfl | rfl <;> decide) (by
    rintro rfl
    rw [hb] at hk
    injection hk with hk
    injection hk with _ hk _
    rcases hty with rfl | rfl | rfl | rfl <;> exact absurd hk (by decide))⟩
theorem KpI.kpw {B : Nat} {W W' : World} (h : KpI B W W') : KpW B W W' := ⟨h.bl, fun k c ty hty hk => h.n k c ty (hty.elim .inl (fun e => .inr (.inl e))) hk⟩
theorem cells1k {W : World} {g k : Nat} {a : Value} (h : W.heap[g]? = some (.cells #[a] k (0, 0))) : W.cell? ⟨g, 0, none⟩ = some a ∧ W.frozen? ⟨g, 0, none⟩ = false := by
  simp [World.cell?, World.frozen?, h]
theorem set1k {W : World} {g k : Nat} {a v : Value} (h : W.heap[g]? = some (.cells #[a] k (0, 0))) : (W.setCell ⟨g, 0, none⟩ v).heap[g]? = some (.cells #[v] k (0, 0)) := by
  simp [World.setCell, Array.getElem?_modify, h]
theorem set_other {W : World} {g k : Nat} {v : Value} {o : Obj} (h : W.heap[k]? = some o) (hne : k ≠ g) : (W.setCell ⟨g, 0, none⟩ v).heap[k]? = some o := by
  rw [Below.heap_setCell _ _ _ _ (fun e => hne e)]
  exact h
theorem ty_ne {W : World} {k g : Nat} {c c' : Array Value} {t t' : Nat} (h : W.heap[k]? = some (Obj.cells c t (0, 0))) (h' : W.heap[g]? = some (Obj.cells c' t' (0, 0))) (ht : t ≠ t') : k ≠ g := by
  rintro rfl
  rw [h] at h'
  injection h' with h'
  injection h' with _ h' _
  exact ht h'
theorem KpW.set {B : Nat} {W : World} {g : Nat} {c : Array Value} {v : Value} (hB : B ≤ g) (h : W.heap[g]? = some (Obj.cells c 3 (0, 0))) : KpW B W (W.setCell ⟨g, 0, none⟩ v) :=
  ⟨(Below.refl B W).setCell (p := ⟨g, 0, none⟩) hB v, fun k c' ty hty hk => set_other hk (ty_ne hk h (by rcases hty with rfl | rfl <;> decide))⟩
structure Btw (B f m F L G : Nat) (fv : Value) (w : World) (In : List Nat → World → Prop) (ps : List Nat) (W : World) : Prop where
  i : In ps W
  len : ps.length < m
  hF : W.heap[F]? = some (.cells #[.int .i64 (f : Int)] 3 (0, 0))
  hL : W.heap[L]? = some (.cells #[.int .i64 ((m - ps.length : Nat) : Int)] 3 (0, 0))
  hG : W.heap[G]? = some (.cells #[fv] 128 (0, 0))
  b : Below B w W
structure Inner (B g : Nat) (C : List (Int × Int)) (cap : Value) (In : List Nat → World → Prop) : Prop where
  below : ∀ ps W W', In ps W → Below W.heap.size W W' → In ps W'
  set : ∀ ps (W : World) (k : Nat) (c : Array Value) (v : Value), In ps W → W.heap[k]? = some (Obj.cells c 3 (0, 0)) → In ps (W.setCell ⟨k, 0, none⟩ v)
  call : ∀ (ps : List Nat) (x : Int) (a : Nat) (rs : List Int) (A : Option Addr) (c : Nat) (W : World), x = (a : Int) → In ps W → (∀ p ∈ ps, p < a) → (∀ j (h : j < rs.length), C[a + j]? = some (rs[j], 0)) → 0 < rs.length → ps.length + rs.length ≤ 2097152 → RunesAt W A rs → (∀ ad, A = some ad → ad.block < B) → B ≤ W.heap.size → rs.length ≤ c →
    Calls Tryd.prog g #[.int .i64 x, .slice A rs.length c, cap] W fun e w' => e = .returned (.tuple #[]) ∧ In (ps ++ List.range' a rs.length) w' ∧ KpI B W w'
section
variable {B : Nat} {C : List (Int × Int)} {cap : Value} {In : List Nat → World → Prop} {w : World} {f m F L G : Nat}
set_option maxRecDepth 100000 in
set_option maxHeartbeats 16000000 in
theorem see101_71 (hC : C.length ≤ 1048576) (hI : Inner B 71 C cap In) (hF : B ≤ F) (hL : B ≤ L) (hLF : L ≠ F) (hm : m ≤ 1048576) (at_ : Nat) (p : Pc) (W : World) {ps : List Nat} (hps : ps = vp C f at_) (hj : Btw B f m F L G (.func (.func 71) #[] #[cap]) w In ps W) (hlo : f < at_ + p.rs.length) (ha : At C at_ p.cells) (hr : RunesAt W p.A p.rs) (hA : ∀ ad, p.A = some ad → ad.block < B) (hc : p.rs.length ≤ p.c) (hne : p.rs ≠ []) (hh : 0 ≤ p.hid) (hB : B ≤ W.heap.size) :
    Calls Tryd.prog 101 #[.int .i64 (at_ : Int), .agg #[.slice p.A p.rs.length p.c, .int .i64 p.hid], .pointer (some ⟨F, 0, none⟩), .pointer (some ⟨L, 0, none⟩), .pointer (some ⟨G, 0, none⟩)] W fun e w' => (e = .returned (.bool true) ∧ Btw B f m F L G (.func (.func 71) #[] #[cap]) w In (vp C f (at_ + p.rs.length)) w' ∧ KpW B W w') ∨ (e = .returned (.bool false) ∧ In ((vp C f C.length).take m) w' ∧ Below B w w' ∧ w'.heap[F]? = some (.cells #[.int .i64 (f : Int)] 3 (0, 0))) := by
  obtain ⟨rs, hid, A, c⟩ := p
  dsimp only at *
  have hle := ha.le
  rw [show (Pc.cells ⟨rs, hid, A, c⟩).length = rs.length from by simp [Pc.cells]] at hle
  have hstep := vp_step (f := f) (show At C at_ (rs.map (fun c => (c, hid))) from ha) rs.length (Nat.le_refl _)
  obtain ⟨hin, hlen, bF, bL, bG, bw⟩ := hj
  by_cases c1 : hid = 0
  · have d1 : decide ((0 : Int) < hid) = false := decide_eq_false (by omega)
    rw [if_pos c1] at hstep
    subst c1
    have hz : 0 < rs.length := List.length_pos_iff.2 hne
    obtain ⟨ad, hAd⟩ : ∃ ad, A = some ad := by
      obtain ⟨ad, e, _⟩ := hr.2.2 hz
      exact ⟨ad, e⟩
    subst hAd
    obtain ⟨cut, hcut⟩ : ∃ cut, cut = f - at_ := ⟨_, rfl⟩
    rw [← hcut] at hstep
    obtain ⟨n1, hn1⟩ : ∃ n1, rs.length - cut = n1 := ⟨_, rfl⟩
    obtain ⟨lf, hlf⟩ : ∃ lf, lf = m - ps.length := ⟨_, rfl⟩
    rw [← hlf] at bL
    obtain ⟨j, hj⟩ : ∃ j, j = min n1 lf := ⟨_, rfl⟩
    obtain ⟨x, hx⟩ : ∃ x : Int, (f : Int) - (at_ : Int) = x := ⟨_, rfl⟩
    have wx : IntKind.i64.wrap ((f : Int) - (at_ : Int)) = x := ((IntWalk.i64_left _).trans (w64 (by omega) (by omega))).trans hx
    have WX := Lib.hid wx
    clear wx
    have ex : max 0 x = (cut : Int) := by omega
    have ej : min (lf : Int) (n1 : Int) = (j : Int) := by omega
    have EX := Lib.hid ex
    have EJ := Lib.hid ej
    clear ex ej
    have hck : (c = cut) = False := by simp; omega
    have hck2 : (c == cut) = false := by simp; omega
    have kc : (cut : Int) ≤ (c : Int) := by omega
    have kl : (cut : Int) ≤ (rs.length : Int) := by omega
    have jl : (j : Int) ≤ (n1 : Int) := by omega
    have j0 : 0 < j := by omega
    have jl2 : (j : Int) ≤ ((c - cut : Nat) : Int) := by omega
    have b1 : (at_ : Int) + (cut : Int) ≤ 1048576 := by omega
    have hdr : RunesAt W (some (ad.add cut)) (rs.drop cut) := by
      have hd := Kd.C_drop hr (m := cut) (c := c) (by omega) hc
      rw [if_neg (by omega), show cut * (Kd.int IntKind.i32).sz = cut from Nat.mul_one cut] at hd
      exact hd
    have hdt : RunesAt W (some (ad.add cut)) ((rs.drop cut).take j) := Kd.C_take hdr (by rw [List.length_drop]; omega)
    have hdl : ((rs.drop cut).take j).length = j := by rw [List.length_take, List.length_drop]; omega
    obtain ⟨rj, hrj⟩ : ∃ rj, rj = (rs.drop cut).take j := ⟨_, rfl⟩
    rw [← hrj] at hdt hdl
    have hcell : ∀ i (h : i < rj.length), C[at_ + cut + i]? = some (rj[i], 0) := by
      intro i h
      have h2 := ha.get (j := cut + i) (by simp [Pc.cells]; omega)
      rw [← Nat.add_assoc] at h2
      rw [h2]
      simp [Pc.cells, hrj]
    have hlow : ∀ p ∈ ps, p < at_ + cut := by
      intro p hp
      rw [hps] at hp
      have := (vp_mem hp).2.1
      omega
    have hAc : ∀ ad', some (ad.add cut) = some ad' → ad'.block < B := by
      intro ad' e
      injection e with e
      rw [← e, add_block]
      exact hA ad rfl
    obtain ⟨W1, hW1⟩ : ∃ W1, W.alloc (.cells #[.slice (some ad) rs.length c, .int .i64 0] 113) = W1 := ⟨_, rfl⟩
    have hb1 : Below W.heap.size W W1 := by rw [← hW1]; exact below_alloc (Below.refl _ W) _
    have z0 : W1.cell? ⟨W.heap.size, 0, none⟩ = some (.slice (some ad) rs.length c) := by rw [← hW1]; simp
    have z1 : W1.cell? ⟨W.heap.size, 1, none⟩ = some (.int .i64 0) := by rw [← hW1]; simp
    have q1 := (hb1.block _ (new_lt bF)).trans bF
    have q2 := (hb1.block _ (new_lt bL)).trans bL
    have q3 := (hb1.block _ (new_lt bG)).trans bG
    obtain ⟨y1, _⟩ := cells1k q1
    obtain ⟨y2, _⟩ := cells1k q2
    obtain ⟨y3, _⟩ := cells1k q3
    have hB1 := Nat.le_trans hB hb1.size
    have hcall := hI.call ps ((at_ : Int) + (cut : Int)) (at_ + cut) rj (some (ad.add cut)) (c - cut) W1 (by omega) (hI.below _ _ _ hin hb1) hlow hcell (by omega) (by omega) (Kd.C_below hdt hb1) hAc hB1 (by omega)
    rw [hdl] at hcall
    have wz : IntKind.i64.wrap ((lf : Int) - (j : Int)) = ((lf - j : Nat) : Int) := ((IntWalk.i64_left _).trans (w64 (by omega) (by omega))).trans (by omega)
    have HX := Lib.hid hx
    have HST := Lib.hid hstep
    have HJ := Lib.hid hj
    have HLF := Lib.hid hlf
    have HN1 := Lib.hid (show rs.length - cut = n1 from hn1)
    have HCUT := Lib.hid hcut
    have HLE := Lib.hid hle
    have HLEN := Lib.hid hlen
    have HM := Lib.hid hm
    have wx := WX.out
    have ex := EX.out
    have ej := EJ.out
    clear hx hstep hj hlf hcut hle hlen hm hin hdr hdt hdl hcell hlow hr hlo ha
    go_enter Tryd.func101, Tryd.ntmps101
    go_wp2_with (go_at_call 71; refine hcall.mono ?_; rintro e w5 ⟨rfl, hin5, k5⟩; have bL5 := k5.n _ _ _ (.inr (.inr (.inl rfl))) q2; have hy5 := cells1k bL5; obtain ⟨y5, f5⟩ := hy5; have hs6 := set1k (v := .int .i64 ((lf - j : Nat) : Int)) bL5; have hy6 := cells1k hs6; obtain ⟨y6, _⟩ := hy6; have lL := new_lt bL5)
    go_ret
    have bF5 := k5.n _ _ _ (.inr (.inr (.inl rfl))) q1
    have bG5 := k5.n _ _ _ (.inr (.inr (.inr rfl))) q3
    have hin6 := hI.set _ _ L _ (.int .i64 ((lf - j : Nat) : Int)) hin5 bL5
    have hb6 : Below B w (w5.setCell ⟨L, 0, none⟩ (.int .i64 ((lf - j : Nat) : Int))) := ((bw.trans (hb1.mono hB)).trans k5.bl).setCell (p := ⟨L, 0, none⟩) hL _
    have hkw : KpW B W (w5.setCell ⟨L, 0, none⟩ (.int .i64 ((lf - j : Nat) : Int))) := ((KpW.of hb1 hB).trans k5.kpw).trans (KpW.set hL bL5)
    have a1 := HJ.out
    have a2 := HLF.out
    have a3 := HN1.out
    have a4 := HLEN.out
    have a5 := HLE.out
    have a6 := HST.out
    clear wx ex ej wz
    by_cases c2 : n1 < lf
    · have ed : decide (0 < lf - j) = true := decide_eq_true (by omega)
      have ej : j = n1 := by omega
      rw [ed]
      rw [a3, ← hps] at a6
      rw [ej] at hin6 hs6 hb6 hkw ⊢
      rw [a6]
      refine .inl ⟨rfl, ⟨hin6, by rw [List.length_append, List.length_range']; omega, set_other bF5 (fun e => hLF e.symm), ?_, set_other bG5 (ty_ne bG5 bL5 (by decide)), hb6⟩, hkw⟩
      rw [hs6, List.length_append, List.length_range', show m - (ps.length + n1) = lf - n1 by omega]
    · have ed : decide (0 < lf - j) = false := decide_eq_false (by omega)
      have ej : j = lf := by omega
      rw [ed]
      refine .inr ⟨rfl, ?_, hb6, set_other bF5 (fun e => hLF e.symm)⟩
      obtain ⟨Z, hZ⟩ := vp_more (C := C) (f := f) (at_ + rs.length) (C.length - (at_ + rs.length))
      rw [show at_ + rs.length + (C.length - (at_ + rs.length)) = C.length by omega, a6, ← hps, a3] at hZ
      have ht : (vp C f C.length).take m = ps ++ List.range' (at_ + cut) j := by
        rw [hZ, List.append_assoc, List.take_append, List.take_of_length_le (by omega), List.take_append, List.length_range', show m - ps.length - n1 = 0 by omega, List.take_zero, List.append_nil, ← a2, ej]
        congr 1
        rw [show n1 = lf + (n1 - lf) by omega, List.range'_append_1.symm, List.take_left' (by simp)]
      rw [ht]
      exact hin6
  · have d1 : decide ((0 : Int) < hid) = true := decide_eq_true (by omega)
    rw [if_neg c1, List.append_nil] at hstep
    have hb1 : Below W.heap.size W (W.alloc (.cells #[.slice A rs.length c, .int .i64 hid] 113)) := below_alloc (Below.refl _ W) _
    have hin1 := hI.below _ _ _ hin hb1
    have q1 := (hb1.block _ (new_lt bF)).trans bF
    have q2 := (hb1.block _ (new_lt bL)).trans bL
    have q3 := (hb1.block _ (new_lt bG)).trans bG
    rw [hstep, ← hps]
    go_enter Tryd.func101, Tryd.ntmps101
    go_wp2
    go_ret
    exact .inl ⟨rfl, ⟨hin1, hlen, q1, q2, q3, bw.trans (hb1.mono hB)⟩, KpW.of hb1 hB⟩
set_option maxRecDepth 100000 in
set_option maxHeartbeats 16000000 in
theorem between_71 {K0 : Nat → Prop} {W : World} {b : Nat} {t : Tree} {p0 : Option Addr} {lo hi : Nat} (h : RopeAt K0 W b t) (hsz : t.cells.length ≤ 1048576) (hlo : lo < hi) (hhi : hi ≤ vis t.cells) (hv : W.heap[b]? = some (.cells #[.pointer p0] 108 (0, 0))) (ht : Rpo (fun k => k < B) W t (.pointer p0)) (hg : t.Good 0) (hb : b < B) (hB : B ≤ W.heap.size) (hI : Inner B 71 t.cells cap In) (h0 : In [] W) :
    Calls Tryd.prog 70 #[.pointer (some ⟨b, 0, none⟩), .int .i64 (lo : Int), .int .i64 (hi : Int), .func (.func 71) #[] #[cap]] W fun e w' => e = .returned (.tuple #[]) ∧ In ((vp t.cells (nth0 t.cells lo) t.cells.length).take (hi - lo)) w' ∧ Below B W w' := by
  have hvl := vis_le t.cells
  obtain ⟨f, hf⟩ : ∃ f, f = nth0 t.cells lo := ⟨_, rfl⟩
  have hfl : f ≤ t.cells.length := by rw [hf]; exact nth0_le _ _
  have htot := totalOf_yes h hsz lo (by omega)
  have hvplen : hi - lo ≤ (vp t.cells f t.cells.length).length := by
    rw [hf, vp_from (by omega), List.length_drop, vp_len _ (Nat.le_refl _), List.take_length]
    omega
  have d0 : ((lo : Int) == (hi : Int)) = false := beq_eq_false_iff_ne.mpr (by omega)
  have d1 : (lo == hi) = false := beq_eq_false_iff_ne.mpr (by omega)
  have b1 : (hi : Int) ≤ 1048576 := by omega
  have b2 : (lo : Int) ≤ 1048576 := by omega
  have b3 : (f : Int) ≤ 1048576 := by omega
  have wz : IntKind.i64.wrap ((hi : Int) - (lo : Int)) = ((hi - lo : Nat) : Int) := ((IntWalk.i64_left _).trans (w64 (by omega) (by omega))).trans (by omega)
  have hHT := fun W' (hW : Below W.heap.size W W') => (totalOf_yes (h.below hW) hsz lo (by omega : lo < vis t.cells))
  rw [← hf] at hHT ⊢
  have HHT := Lib.hid hHT
  clear hHT
  obtain ⟨m, hm⟩ : ∃ m, m = hi - lo := ⟨_, rfl⟩
  rw [← hm] at hvplen wz ⊢
  have hm0 : 0 < m := by omega
  have hm1 : m ≤ 1048576 := by omega
  clear hm hf hvl hlo hhi htot h
  go_enter Tryd.func70, Tryd.ntmps70
  have hb1 : Below W.heap.size W (W.alloc (.cells #[.func (.func 71) #[] #[cap]] 128)) := below_alloc (Below.refl _ W) _
  have bG : (W.alloc (.cells #[.func (.func 71) #[] #[cap]] 128)).heap[W.heap.size]? = some (Obj.cells #[.func (.func 71) #[] #[cap]] 128 (0, 0)) := heap_new _ _
  go_wp2_with (go_at_call 21; refine (HHT.out _ hb1).mono ?_; rintro e w2 ⟨rfl, hb2⟩)
  obtain ⟨W4, hW4⟩ : ∃ W4, (w2.alloc (.cells #[.int .i64 (f : Int)] 3)).alloc (.cells #[.int .i64 (m : Int)] 3) = W4 := ⟨_, rfl⟩
  have hb4 : Below w2.heap.size w2 W4 := by rw [← hW4]; exact below_alloc (below_alloc (Below.refl _ w2) _) _
  have bF : W4.heap[w2.heap.size]? = some (Obj.cells #[.int .i64 (f : Int)] 3 (0, 0)) := by
    rw [← hW4]
    exact ((below_alloc (Below.refl _ _) _).block _ (by simp)).trans (heap_new _ _)
  have bL : W4.heap[w2.heap.size + 1]? = some (Obj.cells #[.int .i64 (m : Int)] 3 (0, 0)) := by
    rw [← hW4]
    have := heap_new (w2.alloc (.cells #[.int .i64 (f : Int)] 3)) (.cells #[.int .i64 (m : Int)] 3)
    rwa [World.size_alloc] at this
  have bG4 := (hb4.block _ (new_lt ((hb2.block _ (new_lt bG)).trans bG))).trans ((hb2.block _ (new_lt bG)).trans bG)
  have hbW : Below W.heap.size W W4 := hb1.trans ((hb2.trans (hb4.mono hb2.size)).mono hb1.size)
  have hz1 := hb1.size
  have hz2 := hb2.size
  simp only [World.size_alloc] at hz2
  have rW := hbW.block _ (new_lt hv)
  have hv4 := rW.trans hv
  obtain ⟨y0, _⟩ := cells1k hv4
  obtain ⟨y1, _⟩ := cells1k bF
  rw [hW4]
  have hB2 : B ≤ w2.heap.size := by omega
  have hwk : ∀ W5, Below W4.heap.size W4 W5 → Calls Tryd.prog 65 #[.pointer p0, .int .i64 0, .int .i64 (f : Int), .func (.func 101) #[] #[.pointer (some ⟨w2.heap.size, 0, none⟩), .pointer (some ⟨w2.heap.size + 1, 0, none⟩), .pointer (some ⟨W.heap.size, 0, none⟩)]] W5 fun e w' => e = .returned (.bool false) ∧ In ((vp t.cells f t.cells.length).take m) w' ∧ Below B W w' ∧ w'.heap[w2.heap.size]? = some (.cells #[.int .i64 (f : Int)] 3 (0, 0)) := by
    intro W5 h5
    have hbW5 : Below W.heap.size W W5 := hbW.trans (h5.mono hbW.size)
    have hB5 : B ≤ W5.heap.size := Nat.le_trans hB hbW5.size
    have hi0 : Btw B f m w2.heap.size (w2.heap.size + 1) W.heap.size (.func (.func 71) #[] #[cap]) W In (vp t.cells f 0) W5 :=
      ⟨hI.below _ _ _ h0 hbW5, by simpa [vp] using hm0, (h5.block _ (new_lt bF)).trans bF, (h5.block _ (new_lt bL)).trans bL, (h5.block _ (new_lt bG4)).trans bG4, hbW5.mono hB⟩
    have := walk_101 (B := B) (C := t.cells) (lo := f) (J := fun q W' => Btw B f m w2.heap.size (w2.heap.size + 1) W.heap.size (.func (.func 71) #[] #[cap]) W In (vp t.cells f q) W') (Jx := fun w' => In ((vp t.cells f t.cells.length).take m) w' ∧ Below B W w' ∧ w'.heap[w2.heap.size]? = some (.cells #[.int .i64 (f : Int)] 3 (0, 0))) hsz (by omega)
      (fun at_ p W' hj hlo ha hr hA hc hne hh hB' => see101_71 (w := W) (F := w2.heap.size) (L := w2.heap.size + 1) (G := W.heap.size) hsz hI hB2 (Nat.le_trans hB2 (Nat.le_succ _)) (Nat.succ_ne_self _) hm1 at_ p W' rfl hj hlo ha hr hA hc hne hh hB')
      (fun at_ n W' hj hn => by rw [vp_none hn]; rw [vp_none (by omega)] at hj; exact hj)
      (fun at_ W' W'' hj hb' => ⟨hI.below _ _ _ hj.i hb', hj.len, (hb'.block _ (new_lt hj.hF)).trans hj.hF, (hb'.block _ (new_lt hj.hL)).trans hj.hL, (hb'.block _ (new_lt hj.hG)).trans hj.hG, hj.b.trans (hb'.mono (Nat.le_trans hB hj.b.size))⟩)
      t.size t (.pointer p0) W5 0 (Nat.le_refl _) (ht.below hbW5) hg hB5 (At.all _) hi0
    refine Calls.mono this ?_
    rintro e w' (⟨_, hj, _⟩ | h)
    · rw [Nat.zero_add] at hj
      exact absurd hj.len (by omega)
    · exact h
  have HWK := Lib.hid hwk
  clear hwk
  have r0 := y0
  have r1 := y1
  go_region_held3 (fun W' => W'.cell? ⟨b, 0, none⟩ = some (.pointer p0) ∧ W'.cell? ⟨w2.heap.size, 0, none⟩ = some (.int .i64 (f : Int)))
    (first | exact ⟨y0, y1⟩ | exact ⟨r0, r1⟩ | fail)
    (first | (go_at_call 65; refine (HWK.out _ (pw_below_drewN (Below.refl _ W4) _)).mono ?_; rintro e w6 ⟨rfl, h6, hb6, hF6⟩; have r0 := (cells1k ((hb6.block _ hb).trans hv)).1; have r1 := (cells1k hF6).1) | fail)
  go_end0
  exact ⟨rfl, h6, hb6⟩
end
section
variable {B : Nat} {C : List (Int × Int)} {cap : Value} {In : List Nat → World → Prop} {w : World} {f m F L G : Nat}
end
set_option maxRecDepth 100000 in
set_option maxHeartbeats 4000000 in
theorem between_none (W : World) (b lo : Nat) (g : Nat) (cap : Value) : Calls Tryd.prog 70 #[.pointer (some ⟨b, 0, none⟩), .int .i64 (lo : Int), .int .i64 (lo : Int), .func (.func g) #[] #[cap]] W fun e w' => e = .returned (.tuple #[]) ∧ Below W.heap.size W w' := by
  have d1 : (lo == lo) = true := beq_self_eq_true lo
  go_enter Tryd.func70, Tryd.ntmps70
  go_wp2
  refine bodyPost_ret (results_none rfl _ _ _) rfl ?_
  exact ⟨rfl, below_alloc (Below.refl _ W) _⟩
end Go.Proofs.YteeigokkafcaaaaDoorRope
end
section
namespace Go.Proofs.YteeigokkafcaaaaDoorRope
open Go.RowKit Go.Proofs.YteeigokkafcaaaaDoorW.PrintWords Go.Proofs.YteeigokkafcaaaaDoorW.PrintMore
set_option linter.unusedSimpArgs false
set_option linter.unusedVariables false
theorem Rpo.mono {M M' : Nat → Prop} (hM : ∀ k, M k → M' k) {W : World} {t : Tree} : ∀ {v : Value}, Rpo M W t v → Rpo M' W t v := by
  induction t with
  | nil => intro v h; exact h
  | node l rs hid r plus ihl ihr =>
    rintro v ⟨a, vl, vr, A, c, rfl, hh, hc, hr, hA, h1, h2⟩
    exact ⟨a, vl, vr, A, c, rfl, hh, hc, hr, fun ad e => hM _ (hA ad e), ihl h1, ihr h2⟩
theorem Bld.set {B b : Nat} {acc : List Int} {W : World} (h : Bld B b acc W) {k : Nat} {c : Array Value} (v : Value) (hk : W.heap[k]? = some (Obj.cells c 3 (0, 0))) : Bld B b acc (W.setCell ⟨k, 0, none⟩ v) := by
  refine h.imp ?_ ?_ <;>
    · rintro ⟨hB, v', hv, hown, hne⟩
      refine ⟨hB, v', set_other hv (ty_ne hv hk (by decide)), hown.kept (row := some k) ⟨rfl, rfl, rfl, by simp [World.setCell], fun i hi hne => Below.heap_setCell W ⟨k, 0, none⟩ v i (fun e => hne (by rw [show i = k from e]))⟩ (.inr ?_), hne⟩
      intro e
      obtain ⟨c', fz, hc'⟩ := Lib.ownsRowF_kind hown k e
      rw [hk] at hc'
      injection hc' with hc'
      injection hc' with _ hc' _
      exact absurd hc' (by decide)
theorem inner71 {B b : Nat} {C : List (Int × Int)} (hC : ∀ c ∈ C, Rn c.1) : Inner B 71 C (.pointer (some ⟨b, 0, none⟩)) (fun ps W => Bld B b (ps.map (rnAt C)) W) where
  below ps W W' h hb := h.below hb
  set ps W k c v h hk := h.set v hk
  call ps x a rs A c W hx h hp hc h0 hl hr hA hB hrc := by
    have hrs : rs = (List.range' a rs.length).map (rnAt C) := by
      apply List.ext_getElem
      · simp
      · intro i h1 h2
        rw [List.getElem_map, List.getElem_range', rnAt, List.getD_eq_getElem?_getD]
        have := hc i h1
        rw [show a + 1 * i = a + i by omega, this]
        rfl
    have hrn : ∀ r ∈ rs, Rn r := by
      intro r hr'
      obtain ⟨i, hi, rfl⟩ := List.getElem_of_mem hr'
      have := hC _ (List.mem_of_getElem? (hc i hi))
      exact this
    refine (slice1_calls x hr hA hrn h hB (by rw [List.length_map]; exact hl)).mono ?_
    rintro e w' ⟨he, h', hk⟩
    obtain ⟨_, c0, hc0⟩ := h.at
    refine ⟨he, ?_, hk.kpi hc0⟩
    rw [List.map_append, ← hrs]
    exact h'
theorem fresh_bld (W : World) : Bld W.heap.size W.heap.size [] (W.alloc (.cells #[.pointer none, .slice none 0 0] 118)) := Lib.IsBuilderF.of (Lib.fresh_isBuilder 118 5 W)
set_option maxRecDepth 100000 in
set_option maxHeartbeats 8000000 in
theorem slice_yes {K0 : Nat → Prop} {W : World} {b : Nat} {t : Tree} (h : RopeAt K0 W b t) (hsz : t.cells.length ≤ 1048576) (hN : ∀ c ∈ t.cells, Rn c.1) {lo hi : Nat} (hlo : lo ≤ hi) (hhi : hi ≤ vis t.cells) :
    Calls Tryd.prog 31 #[.pointer (some ⟨b, 0, none⟩), .int .i64 (lo : Int), .int .i64 (hi : Int)] W fun e w' => e = .returned (.tuple #[.string (txt (((visR t.cells).drop lo).take (hi - lo))), .int .i64 0]) ∧ Below W.heap.size W w' := by
  obtain ⟨p0, hv, hE, hn, hlt⟩ := h.blk
  have ht := hE.t _ List.mem_cons_self
  have d0 : decide ((lo : Int) < 0) = false := decide_eq_false (by omega)
  have d1 : decide (hi < lo) = false := decide_eq_false (by omega)
  have d2 : decide (vis t.cells < hi) = false := decide_eq_false (by omega)
  have hrb : ∀ W', Below W.heap.size W W' → RopeAt K0 W' b t := fun W' hW => h.below hW
  have HRB := Lib.hid hrb
  have HLO := Lib.hid hlo
  have HHI := Lib.hid hhi
  have ht2 := Rpo.of (ht.rep.bound ht.good)
  have HT2 : Hid (Rpo (fun k => k < W.heap.size) W t (.pointer p0)) := Lib.hid (ht2.mono (fun k hk => hk.2))
  clear hrb hlo hhi ht2 h
  by_cases c : lo = hi
  · subst c
    go_enter Tryd.func31, Tryd.ntmps31
    go_wp2_with (first
      | (go_at_call 20; refine (shownR_calls (HRB.out _ (Below.refl _ _))).mono ?_; rintro e w1 ⟨rfl, hb1⟩; have fb := fresh_bld w1; have hba := below_alloc (Below.refl w1.heap.size w1) (.cells #[.pointer none, .slice none 0 0] 118))
      | (go_at_call 70; refine (between_none _ b lo 71 _).mono ?_; rintro e w2 ⟨rfl, hb2⟩; have fb2 := fb.below hb2)
      | (go_at_call 63; refine (Tryd.Builder_String_any_k _ _ _ _ fb2 (Nat.le_trans hba.size hb2.size)).mono ?_; rintro e w3 ⟨rfl, _, hb3, _⟩))
    go_ret2
    refine ⟨by simp [txt], ?_⟩
    exact hb1.trans ((hba.trans ((hb2.mono hba.size).trans hb3)).mono hb1.size)
  · have hlt' : lo < hi := Nat.lt_of_le_of_ne HLO.out c
    go_enter Tryd.func31, Tryd.ntmps31
    go_wp2_with (first
      | (go_at_call 20; refine (shownR_calls (HRB.out _ (Below.refl _ _))).mono ?_; rintro e w1 ⟨rfl, hb1⟩; have fb := fresh_bld w1; have hba := below_alloc (Below.refl w1.heap.size w1) (.cells #[.pointer none, .slice none 0 0] 118); have hbW := hb1.trans (hba.mono hb1.size))
      | (go_at_call 70; refine (between_71 (B := w1.heap.size) (HRB.out _ hbW) hsz hlt' HHI.out ((hbW.block _ hlt).trans hv) ((HT2.out.mono (fun k hk => Nat.lt_of_lt_of_le hk hb1.size)).below hbW) ht.good (Nat.lt_of_lt_of_le hlt hb1.size) hba.size (inner71 hN) fb).mono ?_; rintro e w2 ⟨rfl, fb2, hb2⟩; rw [vp_from_runes (Nat.le_trans HLO.out HHI.out)] at fb2; obtain ⟨S, hS⟩ : ∃ S, S = ((visR t.cells).drop lo).take (hi - lo) := ⟨_, rfl⟩; rw [← hS] at fb2; have HS := Lib.hid hS; clear hS)
      | (go_at_call 63; refine (Tryd.Builder_String_any_k _ _ _ _ fb2 (Nat.le_trans hba.size hb2.size)).mono ?_; rintro e w3 ⟨rfl, _, hb3, _⟩))
    go_ret2
    refine ⟨?_, hbW.trans ((hb2.trans hb3).mono hb1.size)⟩
    rw [← HS.out]
    rfl
set_option maxRecDepth 100000 in
set_option maxHeartbeats 8000000 in
theorem text_calls {K0 : Nat → Prop} {W : World} {b : Nat} {t : Tree} (h : RopeAt K0 W b t) (hsz : t.cells.length ≤ 1048576) (hN : ∀ c ∈ t.cells, Rn c.1) :
    Calls Tryd.prog 30 #[.pointer (some ⟨b, 0, none⟩)] W fun e w' => e = .returned (.string (txt (visR t.cells))) ∧ Below W.heap.size W w' := by
  obtain ⟨S, hS⟩ : ∃ S, S = visR t.cells := ⟨_, rfl⟩
  have hsl : ∀ W', Below W.heap.size W W' → Calls Tryd.prog 31 #[.pointer (some ⟨b, 0, none⟩), .int .i64 0, .int .i64 (vis t.cells : Int)] W' fun e w' => e = .returned (.tuple #[.string (txt S), .int .i64 0]) ∧ Below W'.heap.size W' w' := by
    intro W' hW
    refine (slice_yes (h.below hW) hsz hN (lo := 0) (Nat.zero_le _) (Nat.le_refl _)).mono ?_
    rintro e w2 ⟨he, hb⟩
    rw [List.drop_zero, Nat.sub_zero, List.take_of_length_le (by rw [visR_len]; exact Nat.le_refl _), ← hS] at he
    exact ⟨he, hb⟩
  have HSL := Lib.hid hsl
  rw [← hS]
  clear hS hsl
  go_enter Tryd.func30, Tryd.ntmps30
  go_wp2_with (first
    | (go_at_call 20; refine (shownR_calls h).mono ?_; rintro e w1 ⟨rfl, hb1⟩)
    | (go_at_call 31; refine (HSL.out _ hb1).mono ?_; rintro e w2 ⟨rfl, hb2⟩))
  go_ret
  exact ⟨rfl, hb1.trans (hb2.mono hb1.size)⟩
end Go.Proofs.YteeigokkafcaaaaDoorRope
end
section
namespace Go.Proofs.YteeigokkafcaaaaDoorRope
open Go.RowKit Go.Proofs.YteeigokkafcaaaaDoorW.PrintWords Go.Proofs.YteeigokkafcaaaaDoorW.PrintMore Go.Proofs.YteeigokkafcaaaaDoor.Pr
set_option linter.unusedSimpArgs false
set_option linter.unusedVariables false
def flat (l : List (Nat × Nat)) : List Nat := l.flatMap (fun r => List.range' r.1 (r.2 - r.1))
end Go.Proofs.YteeigokkafcaaaaDoorRope
end
section
namespace Go.Proofs.YteeigokkafcaaaaDoor.Pr
open Go.RowKit Go.Proofs.YteeigokkafcaaaaDoorW.PrintWords Go.Proofs.YteeigokkafcaaaaDoorW.PrintLast Go.Proofs.YteeigokkafcaaaaDoorW.PrintMore
attribute [local go_sem] max2_int min2_int max_two min_two max_three min_three max_four min_four
set_option linter.unusedVariables false
set_option linter.unusedSimpArgs false
theorem eqA58 (d : Nat) (w : World) (x0 y0 : ByteArray) (x1 y1 : Int) :
  (Op.equalIn (d + 2) 58 (.agg #[.string x0, .int .i64 x1]) (.agg #[.string y0, .int .i64 y1])).run Tryd.prog w = .ok (x0.toList == y0.toList && (x1 == y1)) w := by
 refine eqA_of Tryd.underlying58 (by kernel_rfl) ?_
 refine eqf_cons (by rfl) (by go_simp; rfl) (by go_simp; rfl) (by go_simp) ?_
 exact eqf_last (by rfl) (by go_simp; rfl) (by go_simp; rfl) (by go_simp)
end Go.Proofs.YteeigokkafcaaaaDoor.Pr
end
section
namespace Go.Proofs.YteeigokkafcaaaaDoor.Pr
open Go.RowKit Go.Proofs.YteeigokkafcaaaaDoorW.PrintWords Go.Proofs.YteeigokkafcaaaaDoorW.PrintLast Go.Proofs.YteeigokkafcaaaaDoorW.PrintMore
attribute [local go_sem] max2_int min2_int max_two min_two max_three min_three max_four min_four
set_option linter.unusedVariables false
set_option linter.unusedSimpArgs false
attribute [local go_sem high] eqA58
mutual
def redraftlaw03_chosen.l0 : Nat → List (S36) → Int → Int → Bool → List (S133) → Int → Option ((List (S133)))
 | 0, _, _, _, _, _, _ => none
 | k + 1, x0, x1, x2, x3, x9, x10 => if x10 < (x0.length : Int) then ((redraftlaw03_rest.f x1 7).bind fun t164 => ((redraftlaw03_rest.f x2 11).bind fun t165 => ((redraftlaw03_rest.f (wrap64 ((wrap64 (x10 * t164)) + t165)) 11).bind fun t166 => (if t166 < 5 then (if x3 = true then (if 0 ≤ x10 then (redraftlaw03_chosen.j1 k x0 x1 x2 x3 x9 x10 (((rd_T36 x0 x10).f1) == 0)) else (none)) else (redraftlaw03_chosen.j1 k x0 x1 x2 x3 x9 x10 false)) else (redraftlaw03_chosen.j1 k x0 x1 x2 x3 x9 x10 true))))) else (some x9)
def redraftlaw03_chosen.j1 : Nat → List (S36) → Int → Int → Bool → List (S133) → Int → Bool → Option ((List (S133)))
 | 0, _, _, _, _, _, _, _ => none
 | k + 1, x0, x1, x2, x3, x9, x10, x40 => if x40 = true then (redraftlaw03_chosen.l0 k x0 x1 x2 x3 x9 (wrap64 (x10 + 1))) else (if (x9.length : Int) > 0 then (if 0 ≤ (wrap64 ((x9.length : Int) - 1)) then (if (wrap64 ((x9.length : Int) - 1)) < (x9.length : Int) then (if ((rd_T133 x9 (wrap64 ((x9.length : Int) - 1))).f1) = x10 then (redraftlaw03_chosen.l0 k x0 x1 x2 x3 (x9.set ((wrap64 ((x9.length : Int) - 1)) : Int).toNat (⟨(rd_T133 x9 (wrap64 ((x9.length : Int) - 1))).f0, wrap64 (x10 + 1)⟩ : S133)) (wrap64 (x10 + 1))) else (if x9.length < 8796093022208 then (redraftlaw03_chosen.l0 k x0 x1 x2 x3 (x9 ++ [(⟨x10, wrap64 (x10 + 1)⟩ : S133)]) (wrap64 (x10 + 1))) else (none))) else (none)) else (none)) else (if x9.length < 8796093022208 then (redraftlaw03_chosen.l0 k x0 x1 x2 x3 (x9 ++ [(⟨x10, wrap64 (x10 + 1)⟩ : S133)]) (wrap64 (x10 + 1))) else (none)))
end
def redraftlaw03_chosen.f (k : Nat) (l0 : List (S36)) (a1 : Int) (a2 : Int) (a3 : Bool) : Option ((List (S133))) := redraftlaw03_chosen.l0 k l0 a1 a2 a3 ([] : List (S133)) 0
theorem redraftlaw03_chosen.mono_l : ∀ k, (∀ y0 y1 y2 y3 y4 y5, LeO (redraftlaw03_chosen.l0 k y0 y1 y2 y3 y4 y5) (redraftlaw03_chosen.l0 (k + 1) y0 y1 y2 y3 y4 y5)) ∧ (∀ y0 y1 y2 y3 y4 y5 y6, LeO (redraftlaw03_chosen.j1 k y0 y1 y2 y3 y4 y5 y6) (redraftlaw03_chosen.j1 (k + 1) y0 y1 y2 y3 y4 y5 y6))
 | 0 => ⟨fun _ _ _ _ _ _ r h => by simp [redraftlaw03_chosen.l0] at h, fun _ _ _ _ _ _ _ r h => by simp [redraftlaw03_chosen.j1] at h⟩
 | k + 1 => by
  obtain ⟨ih0, ih1⟩ := redraftlaw03_chosen.mono_l k
  refine ⟨?_, ?_⟩
  ·intro y0 y1 y2 y3 y4 y5
   unfold redraftlaw03_chosen.l0
   repeat' first
   | (with_reducible exact ih0 _ _ _ _ _ _)
   | (with_reducible exact ih1 _ _ _ _ _ _ _)
   | (with_reducible exact LeO.refl _)
   | (with_reducible exact LeO.none _)
   | (with_reducible refine LeO.ite ?_ ?_)
   | (with_reducible refine LeO.bind ?_ (fun _ => ?_))
   | exact ih0 _ _ _ _ _ _
   | exact ih1 _ _ _ _ _ _ _
   | exact LeO.none _
   | refine LeO.ite ?_ ?_
   | refine LeO.bind ?_ (fun _ => ?_)
  ·intro y0 y1 y2 y3 y4 y5 y6
   unfold redraftlaw03_chosen.j1
   repeat' first
   | (with_reducible exact ih0 _ _ _ _ _ _)
   | (with_reducible exact ih1 _ _ _ _ _ _ _)
   | (with_reducible exact LeO.refl _)
   | (with_reducible exact LeO.none _)
   | (with_reducible refine LeO.ite ?_ ?_)
   | (with_reducible refine LeO.bind ?_ (fun _ => ?_))
   | exact ih0 _ _ _ _ _ _
   | exact ih1 _ _ _ _ _ _ _
   | exact LeO.none _
   | refine LeO.ite ?_ ?_
   | refine LeO.bind ?_ (fun _ => ?_)
theorem redraftlaw03_chosen.mono : ∀ a0 a1 a2 a3 k, LeO (redraftlaw03_chosen.f k a0 a1 a2 a3) (redraftlaw03_chosen.f (k + 1) a0 a1 a2 a3) := by
 intro a0 a1 a2 a3 k
 obtain ⟨ih0, ih1⟩ := redraftlaw03_chosen.mono_l k
 unfold redraftlaw03_chosen.f
 repeat' first
   | (with_reducible exact ih0 _ _ _ _ _ _)
   | (with_reducible exact ih1 _ _ _ _ _ _ _)
   | (with_reducible exact LeO.refl _)
   | (with_reducible exact LeO.none _)
   | (with_reducible refine LeO.ite ?_ ?_)
   | (with_reducible refine LeO.bind ?_ (fun _ => ?_))
   | exact ih0 _ _ _ _ _ _
   | exact ih1 _ _ _ _ _ _ _
   | exact LeO.none _
   | refine LeO.ite ?_ ?_
   | refine LeO.bind ?_ (fun _ => ?_)
set_option maxHeartbeats 8000000 in
set_option maxRecDepth 100000 in
theorem redraftlaw03_chosen.calls (k : Nat) (A0 : Option Addr) (c0 : Nat) (l0 : List (S36)) (a1 : Int) (a2 : Int) (a3 : Bool) (r : List (S133)) (w : World) (hr0 : Kd.C k36 w A0 l0.length l0) (hc0 : l0.length ≤ c0) (h : redraftlaw03_chosen.f k l0 a1 a2 a3 = some r) :
  Calls Tryd.prog 68 #[.slice A0 l0.length c0, .int .i64 a1, .int .i64 a2, .bool a3] w fun e w' => ∃ v0_ : Value, e = .returned (v0_) ∧ Kd.R k133 133 w' w.heap.size (fun _ => True) v0_ r ∧ Below w.heap.size w w' := by
 have hu133 := Tryd.underlying133
 have HR0 := Aside0.mk hr0
 have HC0 := Aside0.mk hc0
 clear hr0 hc0
 have HB := Aside0.mk (Below.refl w.heap.size w)
 have H : (redraftlaw03_chosen.l0 k l0 a1 a2 a3 ([] : List (S133)) 0) = some r := h
 clear h
 have H' := Aside0.mk H
 clear H
 go_enter Tryd.func68, Tryd.ntmps68
 go_wp2
 go_loopg [9, 10] k (fun kq v9 v10 w' => ∃ (x9_1 : List (S133)) (x10_1 : Int), v10 = .int .i64 x10_1 ∧ Aside0 (redraftlaw03_chosen.l0 kq l0 a1 a2 a3 x9_1 x10_1 = some r) ∧ Aside0 (kq ≤ k) ∧ Aside0 (Kd.R k133 133 w' w.heap.size (fun _ => True) v9 x9_1) ∧ Aside0 (Below w.heap.size w w'))
 case atStart => exact ⟨(([] : List (S133))), (0), (by first | rfl | (simp; done) | (simp [*]; done)), H', ⟨Nat.le_refl _⟩, ⟨by first | exact Kd.R_nil _ _ _ _ _ | exact Kd.N_nil _ _ _ _ _ | exact Kd.V_nil _ _ _ _ _ | exact Kd.Q_nil _ _ _ _ _ | exact Kd.S_nil _ _ _ _ _⟩, ⟨by repeat (first | (with_reducible first | exact HB.out | apply below_alloc | apply pw_below_drewN | apply below_drew1) | exact HB.out)⟩⟩
 case round =>
  clear H'
  try clear p2
  obtain ⟨x9_1, x10_1, rfl, HA, HK1, HO_9, HB⟩ := hrel
  cases gk with
  | zero => exact absurd HA.out (by simp [redraftlaw03_chosen.l0])
  | succ k1 =>
   have H := HA.out
   clear HA
   simp only [redraftlaw03_chosen.l0] at H
   by_cases c5 : x10_1 < (l0.length : Int)
   ·rw [if_pos c5] at H
    have c5b0 : decide (x10_1 < (l0.length : Int)) = true := decide_eq_true c5
    clear c5
    replace H := Option.bind_eq_some_iff.mp H
    obtain ⟨t164, A60, H⟩ := H
    replace H : ((redraftlaw03_rest.f a2 11).bind fun t165 => ((redraftlaw03_rest.f (wrap64 ((wrap64 (x10_1 * t164)) + t165)) 11).bind fun t166 => (if t166 < 5 then (if a3 = true then (if 0 ≤ x10_1 then (redraftlaw03_chosen.j1 k1 l0 a1 a2 a3 x9_1 x10_1 (((rd_T36 l0 x10_1).f1) == 0)) else (none)) else (redraftlaw03_chosen.j1 k1 l0 a1 a2 a3 x9_1 x10_1 false)) else (redraftlaw03_chosen.j1 k1 l0 a1 a2 a3 x9_1 x10_1 true)))) = some r := H
    have A6 := Aside0.mk A60
    clear A60
    replace H := Option.bind_eq_some_iff.mp H
    obtain ⟨t165, A70, H⟩ := H
    replace H : ((redraftlaw03_rest.f (wrap64 ((wrap64 (x10_1 * t164)) + t165)) 11).bind fun t166 => (if t166 < 5 then (if a3 = true then (if 0 ≤ x10_1 then (redraftlaw03_chosen.j1 k1 l0 a1 a2 a3 x9_1 x10_1 (((rd_T36 l0 x10_1).f1) == 0)) else (none)) else (redraftlaw03_chosen.j1 k1 l0 a1 a2 a3 x9_1 x10_1 false)) else (redraftlaw03_chosen.j1 k1 l0 a1 a2 a3 x9_1 x10_1 true))) = some r := H
    have A7 := Aside0.mk A70
    clear A70
    replace H := Option.bind_eq_some_iff.mp H
    obtain ⟨t166, A80, H⟩ := H
    replace H : (if t166 < 5 then (if a3 = true then (if 0 ≤ x10_1 then (redraftlaw03_chosen.j1 k1 l0 a1 a2 a3 x9_1 x10_1 (((rd_T36 l0 x10_1).f1) == 0)) else (none)) else (redraftlaw03_chosen.j1 k1 l0 a1 a2 a3 x9_1 x10_1 false)) else (redraftlaw03_chosen.j1 k1 l0 a1 a2 a3 x9_1 x10_1 true)) = some r := H
    have A8 := Aside0.mk A80
    clear A80
    have HC9 := Aside0.mk H
    clear H
    go_upto_region 6 with (first | ((with_reducible refine gate_callee (f := 28) rfl ?_); refine goesL_ (some 21) rfl rfl Tryd.func28 (by kernel_rfl) rfl #[.int .i64 a1, .int .i64 7] rfl (by (try simp only [List.map_toArray, List.map_cons, List.map_nil]); first | done | rfl | (simp only [List.length_drop, List.length_take]; rfl)) ?_; (with_reducible refine (redraftlaw03_rest.calls a1 7 t164 _ A6.out).mono ?_); rintro e w' ⟨rfl, ⟨nd, rfl⟩⟩; refine ⟨_, rfl, ?_⟩) | ((with_reducible refine gate_callee (f := 28) rfl ?_); refine goesL_ (some 24) rfl rfl Tryd.func28 (by kernel_rfl) rfl #[.int .i64 a2, .int .i64 11] rfl (by (try simp only [List.map_toArray, List.map_cons, List.map_nil]); first | done | rfl | (simp only [List.length_drop, List.length_take]; rfl)) ?_; (with_reducible refine (redraftlaw03_rest.calls a2 11 t165 _ A7.out).mono ?_); rintro e w' ⟨rfl, ⟨nd, rfl⟩⟩; refine ⟨_, rfl, ?_⟩) | ((with_reducible refine gate_callee (f := 28) rfl ?_); refine goesL_ (some 26) rfl rfl Tryd.func28 (by kernel_rfl) rfl #[.int .i64 (wrap64 ((wrap64 (x10_1 * t164)) + t165)), .int .i64 11] rfl (by (try simp only [List.map_toArray, List.map_cons, List.map_nil]); first | done | rfl | (simp only [List.length_drop, List.length_take]; rfl)) ?_; (with_reducible refine (redraftlaw03_rest.calls (wrap64 ((wrap64 (x10_1 * t164)) + t165)) 11 t166 _ A8.out).mono ?_); rintro e w' ⟨rfl, ⟨nd, rfl⟩⟩; refine ⟨_, rfl, ?_⟩))
    (try simp only [Act.put, List.setIfInBounds_toArray, List.set_cons_zero, List.set_cons_succ])
    go_cut [11, 40] (fun v11 v40 wc => ∃ (kq : Nat) (x40_8 : Bool), v40 = .bool x40_8 ∧ Aside0 (redraftlaw03_chosen.j1 kq l0 a1 a2 a3 x9_1 x10_1 x40_8 = some r) ∧ Aside0 (kq ≤ k1) ∧ Aside0 (Kd.R k133 133 wc w.heap.size (fun _ => True) u9 x9_1) ∧ Aside0 (Below w.heap.size w wc))
    case first =>
     have H := HC9.out
     clear HC9
     by_cases c10 : t166 < 5
     ·rw [if_pos c10] at H
      have c10b0 : decide (t166 < 5) = true := decide_eq_true c10
      clear c10
      (first | rw [c10b0] | (simp only [i64_w, i32_w]; rw [c10b0]) | skip)
      by_cases c11 : a3 = true
      ·subst c11
       have H1 : (if 0 ≤ x10_1 then (redraftlaw03_chosen.j1 k1 l0 a1 a2 true x9_1 x10_1 (((rd_T36 l0 x10_1).f1) == 0)) else (none)) = some r := by rw [if_pos rfl] at H; exact H
       clear H
       have H := H1
       clear H1
       by_cases c12 : 0 ≤ x10_1
       ·rw [if_pos c12] at H
        have c12b0 : decide (0 ≤ x10_1) = true := decide_eq_true c12
        clear c12
        have H' := Aside0.mk H
        clear H
        have p167 : 0 ≤ (x10_1 : Int) := of_decide_eq_true (by first | (with_reducible assumption) | assumption)
        have q167 : x10_1 < (l0.length : Int) := of_decide_eq_true (by first | (with_reducible assumption) | assumption)
        obtain ⟨ad167, e167, hx167_0, hx167_1⟩ := at_T36 HR0.out x10_1 p167 q167
        cases e167
        replace hx167_0 := (HB.out.cell (World.block_lt_of_cell? w _ hx167_0)).trans hx167_0
        replace hx167_1 := (HB.out.cell (World.block_lt_of_cell? w _ hx167_1)).trans hx167_1
        replace p167 := eq_true p167
        replace q167 := eq_true q167
        go_wp2
        go_meet
        case rel => exact ⟨_, ((((rd_T36 l0 x10_1).f1) == 0)), (by first | rfl | (simp; done) | (simp [*]; done)), H', ⟨by have := HK1.out; first | omega | exact Nat.le_refl _⟩, ⟨by (with_reducible repeat (first | apply Kd.R_alloc | apply Kd.R_drewN | apply Kd.R_drew)); exact HO_9.out⟩, ⟨by repeat (first | (with_reducible first | exact HB.out | apply below_alloc | apply pw_below_drewN | apply below_drew1) | exact HB.out)⟩⟩
       ·rw [if_neg c12] at H
        exact absurd H (by simp)
      ·replace c11 := Bool.eq_false_iff.mpr c11
       subst c11
       have H1 : (redraftlaw03_chosen.j1 k1 l0 a1 a2 false x9_1 x10_1 false) = some r := by rw [if_neg (show ¬ (false = true) by decide)] at H; exact H
       clear H
       have H := H1
       clear H1
       have H' := Aside0.mk H
       clear H
       go_wp2
       go_meet
       case rel => exact ⟨_, (false), (by first | rfl | (simp; done) | (simp [*]; done)), H', ⟨by have := HK1.out; first | omega | exact Nat.le_refl _⟩, ⟨by (with_reducible repeat (first | apply Kd.R_alloc | apply Kd.R_drewN | apply Kd.R_drew)); exact HO_9.out⟩, ⟨by repeat (first | (with_reducible first | exact HB.out | apply below_alloc | apply pw_below_drewN | apply below_drew1) | exact HB.out)⟩⟩
     ·rw [if_neg c10] at H
      have c10b0 : decide (t166 < 5) = false := decide_eq_false c10
      clear c10
      (first | rw [c10b0] | (simp only [i64_w, i32_w]; rw [c10b0]) | skip)
      have H' := Aside0.mk H
      clear H
      go_wp2
      go_meet
      case rel => exact ⟨_, (true), (by first | rfl | (simp; done) | (simp [*]; done)), H', ⟨by have := HK1.out; first | omega | exact Nat.le_refl _⟩, ⟨by (with_reducible repeat (first | apply Kd.R_alloc | apply Kd.R_drewN | apply Kd.R_drew)); exact HO_9.out⟩, ⟨by repeat (first | (with_reducible first | exact HB.out | apply below_alloc | apply pw_below_drewN | apply below_drew1) | exact HB.out)⟩⟩
    case rest =>
     clear HC9
     try clear c1
     try clear p1
     try clear q1
     try clear hx1
     try clear c2
     try clear p2
     try clear c5
     try clear c5b0
     try clear c6
     try clear p6
     try clear c10
     try clear c10b0
     try clear c11
     try clear c12
     try clear c12b0
     try clear hx167_0
     try clear hx167_1
     try clear p167
     try clear p2
     try clear q167
     obtain ⟨kq, x40_8, rfl, HA, HJ8, HO_9, HB⟩ := hcut
     cases kq with
     | zero => exact absurd HA.out (by simp [redraftlaw03_chosen.j1])
     | succ kj8 =>
      have H := HA.out
      clear HA
      simp only [redraftlaw03_chosen.j1] at H
      by_cases c13 : x40_8 = true
      ·subst c13
       have H1 : (redraftlaw03_chosen.l0 kj8 l0 a1 a2 a3 x9_1 (wrap64 (x10_1 + 1))) = some r := by rw [if_pos rfl] at H; exact H
       clear H
       have H := H1
       clear H1
       have H' := Aside0.mk H
       clear H
       go_wp2
       go_roundg kj8
       case measure => have := HK1.out; have := HJ8.out; omega
       case rel => exact ⟨(x9_1), (wrap64 (x10_1 + 1)), (by first | rfl | (simp; done) | (simp [*]; done)), H', ⟨by have := HK1.out; have := HJ8.out; omega⟩, ⟨by (with_reducible repeat (first | apply Kd.R_alloc | apply Kd.R_drewN | apply Kd.R_drew)); exact HO_9.out⟩, ⟨by repeat (first | (with_reducible first | exact HB.out | apply below_alloc | apply pw_below_drewN | apply below_drew1) | exact HB.out)⟩⟩
      ·replace c13 := Bool.eq_false_iff.mpr c13
       subst c13
       have H1 : (if (x9_1.length : Int) > 0 then (if 0 ≤ (wrap64 ((x9_1.length : Int) - 1)) then (if (wrap64 ((x9_1.length : Int) - 1)) < (x9_1.length : Int) then (if ((rd_T133 x9_1 (wrap64 ((x9_1.length : Int) - 1))).f1) = x10_1 then (redraftlaw03_chosen.l0 kj8 l0 a1 a2 a3 (x9_1.set ((wrap64 ((x9_1.length : Int) - 1)) : Int).toNat (⟨(rd_T133 x9_1 (wrap64 ((x9_1.length : Int) - 1))).f0, wrap64 (x10_1 + 1)⟩ : S133)) (wrap64 (x10_1 + 1))) else (if x9_1.length < 8796093022208 then (redraftlaw03_chosen.l0 kj8 l0 a1 a2 a3 (x9_1 ++ [(⟨x10_1, wrap64 (x10_1 + 1)⟩ : S133)]) (wrap64 (x10_1 + 1))) else (none))) else (none)) else (none)) else (if x9_1.length < 8796093022208 then (redraftlaw03_chosen.l0 kj8 l0 a1 a2 a3 (x9_1 ++ [(⟨x10_1, wrap64 (x10_1 + 1)⟩ : S133)]) (wrap64 (x10_1 + 1))) else (none))) = some r := by rw [if_neg (show ¬ (false = true) by decide)] at H; exact H
       clear H
       have H := H1
       clear H1
       by_cases c14 : (x9_1.length : Int) > 0
       ·rw [if_pos c14] at H
        have c14b0 : decide (0 < (x9_1.length : Int)) = true := decide_eq_true c14
        have c14b1 : decide (0 < x9_1.length) = true := decide_eq_true (by omega)
        clear c14
        obtain ⟨ji15, hji15⟩ : ∃ j_ : Int, (wrap64 ((x9_1.length : Int) - 1)) = j_ := ⟨_, rfl⟩
        replace H : (if 0 ≤ (ji15) then (if (ji15) < (x9_1.length : Int) then (if ((rd_T133 x9_1 (ji15)).f1) = x10_1 then (redraftlaw03_chosen.l0 kj8 l0 a1 a2 a3 (x9_1.set ((ji15) : Int).toNat (⟨(rd_T133 x9_1 (ji15)).f0, wrap64 (x10_1 + 1)⟩ : S133)) (wrap64 (x10_1 + 1))) else (if x9_1.length < 8796093022208 then (redraftlaw03_chosen.l0 kj8 l0 a1 a2 a3 (x9_1 ++ [(⟨x10_1, wrap64 (x10_1 + 1)⟩ : S133)]) (wrap64 (x10_1 + 1))) else (none))) else (none)) else (none)) = some r := by first | (rw [hji15] at H; exact H) | (simp only [hji15] at H ⊢; exact H)
        have hji15w : (IntKind.i64.wrap ((x9_1.length : Int) - 1)) = ji15 := (i64_w _).trans hji15
        by_cases c16 : 0 ≤ (ji15)
        ·rw [if_pos c16] at H
         have c16b0 : decide (0 ≤ (ji15)) = true := decide_eq_true c16
         clear c16
         by_cases c17 : (ji15) < (x9_1.length : Int)
         ·rw [if_pos c17] at H
          have c17b0 : decide ((ji15) < (x9_1.length : Int)) = true := decide_eq_true c17
          clear c17
          by_cases c18 : ((rd_T133 x9_1 (ji15)).f1) = x10_1
          ·rw [if_pos c18] at H
           have c18b0 : (((rd_T133 x9_1 (ji15)).f1) == x10_1) = true := beq_iff_eq.mpr c18
           have c18b1 : (((rd_T133 x9_1 (ji15)).f1) != x10_1) = false := bne_eq_false_iff_eq.mpr c18
           clear c18
           obtain ⟨y169, hy169⟩ : ∃ y_ : List (S133), y_ = (x9_1.set ((ji15) : Int).toNat (⟨(rd_T133 x9_1 (ji15)).f0, wrap64 (x10_1 + 1)⟩ : S133)) := ⟨_, rfl⟩
           replace H : (redraftlaw03_chosen.l0 kj8 l0 a1 a2 a3 y169 (wrap64 (x10_1 + 1))) = some r := by first | (rw [hy169]; with_reducible exact H) | (have H2_ := (Option.bind_some _ _).symm.trans H; rw [hy169]; with_reducible exact H2_) | (have H2_ := (Option.bind_some _ _).symm.trans H; with_reducible exact H2_) | with_reducible exact H | (rw [hy169]; exact H) | exact H
           have Ny169 := Aside0.mk hy169
           clear hy169
           have H' := Aside0.mk H
           clear H
           obtain ⟨Ao20, co20, eo20⟩ := Kd.R_slice HO_9.out
           subst eo20
           have p168 : 0 ≤ ((ji15) : Int) := of_decide_eq_true (by first | (with_reducible assumption) | assumption)
           have q168 : (ji15) < (x9_1.length : Int) := of_decide_eq_true (by first | (with_reducible assumption) | assumption)
           obtain ⟨ad168, e168, hx168_0, hx168_1⟩ := at_T133 (Kd.R_reads' HO_9.out).2.2 (ji15) p168 q168
           cases e168
           replace p168 := eq_true p168
           replace q168 := eq_true q168
           have p19 : 0 ≤ ((ji15) : Int) := of_decide_eq_true (by first | (with_reducible assumption) | assumption)
           have q19 : ((ji15) : Int) < ((x9_1.length : Int) : Int) := of_decide_eq_true (by first | (with_reducible assumption) | assumption)
           obtain ⟨go19, co19, eo19, gb19, gl19, cl19, HG19⟩ := Kd.R_form HO_9.out (by omega)
           (first | cases eo19 | (injection eo19 with ea_ en_ ec_; (first | subst ea_ | (injection ea_ with ea_; subst ea_)); subst ec_; clear en_))
           have GB19 := Aside0.mk gb19
           have GG19 := Aside0.mk HG19
           clear gb19 gl19 HG19
           (first | simp only [add_plain] at hx168_0 | skip)
           (first | simp only [add_plain] at hx168_1 | skip)
           obtain ⟨ce19, hcl19, hM19, hcc19, hfr19⟩ := Kd.R_elem HO_9.out z133 ((ji15) : Int) p19 q19
           obtain rfl := k133_openM hM19
           have hx19_0 : wc.cell? ⟨go19, ((ji15) : Int).toNat * 2, none⟩ = some (.int .i64 ((rd_T133 x9_1 (ji15)).f0)) := hcc19 0 _ rfl
           have hx19_1 : wc.cell? ⟨go19, ((ji15) : Int).toNat * 2 + 1, none⟩ = some (.int .i64 ((rd_T133 x9_1 (ji15)).f1)) := hcc19 1 _ rfl
           have hf19_0 : wc.frozen? ⟨go19, ((ji15) : Int).toNat * 2, none⟩ = false := hfr19 0
           have hf19_1 : wc.frozen? ⟨go19, ((ji15) : Int).toNat * 2 + 1, none⟩ = false := hfr19 1
           clear hcl19 hcc19 hfr19 hM19
           replace p19 := eq_true p19
           replace q19 := eq_true q19
           have HX21 := Aside0.mk (show Kd.R k133 133 wc w.heap.size (fun _ => True) (.slice (some ⟨go19, 0, none⟩) x9_1.length co20) x9_1 from (by (with_reducible repeat (first | apply Kd.R_alloc | apply Kd.R_drewN | apply Kd.R_drew)); exact HO_9.out))
           obtain ⟨ce21, hcl21, hM21, hcc21, hfr21⟩ := Kd.R_elem HX21.out z133 ((ji15) : Int) (of_decide_eq_true (by first | (with_reducible assumption) | assumption)) (by have h_ : ((ji15) : Int) < ((x9_1.length : Int) : Int) := of_decide_eq_true (by first | (with_reducible assumption) | assumption); first | exact h_ | (have e_ := (Kd.R_reads' HO_9.out).1; omega) | simpa using h_)
           obtain rfl := k133_openM hM21
           have HP21 := Kd.R_seg HX21.out ((ji15) : Int) (of_decide_eq_true (by first | (with_reducible assumption) | assumption)) (by have h_ : ((ji15) : Int) < ((x9_1.length : Int) : Int) := of_decide_eq_true (by first | (with_reducible assumption) | assumption); first | exact h_ | (have e_ := (Kd.R_reads' HO_9.out).1; omega) | simpa using h_) (seg := [.int .i64 (wrap64 (x10_1 + 1))]) (j := 1) hcl21 hcc21 (show 2 ≤ 2 from by decide) (x' := (⟨(rd_T133 x9_1 (ji15)).f0, wrap64 (x10_1 + 1)⟩ : S133)) (k133_mkM _ _ _ (⟨(rd_T133 x9_1 (ji15)).f0, wrap64 (x10_1 + 1)⟩ : S133) ) (fun _ hk => hk)
           have hx21_1 := hcc21 1 _ rfl
           (try simp only [show (k133).sz = 2 from rfl, Nat.mul_one, Nat.add_zero] at hx21_1)
           have hf21_1 := hfr21 1
           (try simp only [show (k133).sz = 2 from rfl, Nat.mul_one, Nat.add_zero] at hf21_1)
           clear hcl21 hcc21 hfr21 hM21
           go_wp2_with (first | ((with_reducible refine gate_store (t := 3) (p := 61) rfl ?_); refine store_event (t := 3) (p := 61) (v := ?vo_w22) (w1 := (wc.setCell ⟨go19, ((ji15) : Int).toNat * 2 + 1, none⟩ (.int .i64 (wrap64 (x10_1 + 1))))) ?hg ?ho ?hn ?hr ?_; (case ho => rfl); (case hg => rfl); (case hn => rfl); (case hr => first | (go_simp; done) | (go_simp; rfl)); intro w22 hw; have hg : wc.grownBy w22 (some go19) := (by rw [hw]; exact HP21.2); have hp_ : Kd.R k133 133 w22 w.heap.size (fun _ => True) (.slice (some ⟨go19, 0, none⟩) x9_1.length co20) y169 := (by rw [hw, Ny169.out]; exact HP21.1); clear HP21; have n0_ := Aside0.mk (hp_); have n1_ := Aside0.mk ((by rw [hw]; exact below_set (HB.out) GB19.out : Below w.heap.size w w22)); clear HO_9; clear HB; have HO_9 := n0_; have HB := n1_; clear n0_ n1_; clear hg hw hp_))
           go_roundg kj8
           case measure => have := HK1.out; have := HJ8.out; omega
           case rel => exact ⟨(y169), (wrap64 (x10_1 + 1)), (by first | rfl | (simp; done) | (simp [*]; done)), H', ⟨by have := HK1.out; have := HJ8.out; omega⟩, ⟨by (with_reducible repeat (first | apply Kd.R_alloc | apply Kd.R_drewN | apply Kd.R_drew)); exact HO_9.out⟩, ⟨by repeat (first | (with_reducible first | exact HB.out | apply below_alloc | apply pw_below_drewN | apply below_drew1) | exact HB.out)⟩⟩
          ·rw [if_neg c18] at H
           have c18b0 : (((rd_T133 x9_1 (ji15)).f1) == x10_1) = false := beq_eq_false_iff_ne.mpr c18
           have c18b1 : (((rd_T133 x9_1 (ji15)).f1) != x10_1) = true := bne_iff_ne.mpr c18
           by_cases c23 : x9_1.length < 8796093022208
           ·rw [if_pos c23] at H
            have LMc23 := Aside0.mk c23
            clear c23
            obtain ⟨y170, hy170⟩ : ∃ y_ : List (S133), y_ = (x9_1 ++ [(⟨x10_1, wrap64 (x10_1 + 1)⟩ : S133)]) := ⟨_, rfl⟩
            replace H : (redraftlaw03_chosen.l0 kj8 l0 a1 a2 a3 y170 (wrap64 (x10_1 + 1))) = some r := by first | (rw [hy170]; with_reducible exact H) | (have H2_ := (Option.bind_some _ _).symm.trans H; rw [hy170]; with_reducible exact H2_) | (have H2_ := (Option.bind_some _ _).symm.trans H; with_reducible exact H2_) | with_reducible exact H | (rw [hy170]; exact H) | exact H
            have Ny170 := Aside0.mk hy170
            clear hy170
            have H' := Aside0.mk H
            clear H
            obtain ⟨Ao24, co24, eo24⟩ := Kd.R_slice HO_9.out
            subst eo24
            have p168 : 0 ≤ ((ji15) : Int) := of_decide_eq_true (by first | (with_reducible assumption) | assumption)
            have q168 : (ji15) < (x9_1.length : Int) := of_decide_eq_true (by first | (with_reducible assumption) | assumption)
            obtain ⟨ad168, e168, hx168_0, hx168_1⟩ := at_T133 (Kd.R_reads' HO_9.out).2.2 (ji15) p168 q168
            cases e168
            replace p168 := eq_true p168
            replace q168 := eq_true q168
            go_wp2_with (first | ((with_reducible refine gate_builtin (b := .append) (xs := #[.tmp 62, .tmp 67]) rfl ?_); at_builtin; refine Kd.R_append k133 (w0 := w) w.heap.size rfl (.tmp 62) (.tmp 67) 61 133 (.agg #[(.int .i64 0), (.int .i64 0)]) 16 rfl Tryd.underlying61 info133 rfl (by decide) (by omega) (.slice (some ad168) x9_1.length co24) x9_1 (⟨x10_1, wrap64 (x10_1 + 1)⟩ : S133) [.int .i64 x10_1, .int .i64 (wrap64 (x10_1 + 1))] (fun _ => True) (fun _ => False) rfl rfl ?aP (fun _ hk => hk.elim) ?aF ?aO ?aB ?aS ?aL ?_; (case aP => exact k133_mkM _ _ _ (⟨x10_1, wrap64 (x10_1 + 1)⟩ : S133)); (case aB => exact (by repeat (first | (with_reducible first | exact HB.out | apply below_alloc | apply pw_below_drewN | apply below_drew1) | exact HB.out))); (case aF => exact (fun _ _ => trivial)); (case aO => exact (by (with_reducible repeat (first | apply Kd.R_alloc | apply Kd.R_drewN | apply Kd.R_drew)); exact HO_9.out)); (case aS => exact (below_size (by repeat (first | (with_reducible first | exact HB.out | apply below_alloc | apply pw_below_drewN | apply below_drew1) | exact HB.out)))); (case aL => have := LMc23.out; omega); intro v171 w25 ho hb hg hat; rw [← Ny170.out] at ho; have n0_ := Aside0.mk (hb); have n1_ := Aside0.mk (ho); clear HB; clear HO_9; have HB := n0_; have HO172 := n1_; clear n0_ n1_; clear ho hb hg hat))
            go_roundg kj8
            case measure => have := HK1.out; have := HJ8.out; omega
            case rel => exact ⟨(y170), (wrap64 (x10_1 + 1)), (by first | rfl | (simp; done) | (simp [*]; done)), H', ⟨by have := HK1.out; have := HJ8.out; omega⟩, ⟨by (with_reducible repeat (first | apply Kd.R_alloc | apply Kd.R_drewN | apply Kd.R_drew)); exact HO172.out⟩, ⟨by repeat (first | (with_reducible first | exact HB.out | apply below_alloc | apply pw_below_drewN | apply below_drew1) | exact HB.out)⟩⟩
           ·rw [if_neg c23] at H
            exact absurd H (by simp)
         ·rw [if_neg c17] at H
          exact absurd H (by simp)
        ·rw [if_neg c16] at H
         exact absurd H (by simp)
       ·rw [if_neg c14] at H
        have c14b0 : decide (0 < (x9_1.length : Int)) = false := decide_eq_false c14
        have c14b1 : decide (0 < x9_1.length) = false := decide_eq_false (by omega)
        clear c14
        by_cases c26 : x9_1.length < 8796093022208
        ·rw [if_pos c26] at H
         have LMc26 := Aside0.mk c26
         clear c26
         obtain ⟨y173, hy173⟩ : ∃ y_ : List (S133), y_ = (x9_1 ++ [(⟨x10_1, wrap64 (x10_1 + 1)⟩ : S133)]) := ⟨_, rfl⟩
         replace H : (redraftlaw03_chosen.l0 kj8 l0 a1 a2 a3 y173 (wrap64 (x10_1 + 1))) = some r := by first | (rw [hy173]; with_reducible exact H) | (have H2_ := (Option.bind_some _ _).symm.trans H; rw [hy173]; with_reducible exact H2_) | (have H2_ := (Option.bind_some _ _).symm.trans H; with_reducible exact H2_) | with_reducible exact H | (rw [hy173]; exact H) | exact H
         have Ny173 := Aside0.mk hy173
         clear hy173
         have H' := Aside0.mk H
         clear H
         obtain ⟨Ao27, co27, eo27⟩ := Kd.R_slice HO_9.out
         subst eo27
         go_wp2_with (first | ((with_reducible refine gate_builtin (b := .append) (xs := #[.tmp 62, .tmp 67]) rfl ?_); at_builtin; refine Kd.R_append k133 (w0 := w) w.heap.size rfl (.tmp 62) (.tmp 67) 61 133 (.agg #[(.int .i64 0), (.int .i64 0)]) 16 rfl Tryd.underlying61 info133 rfl (by decide) (by omega) (.slice Ao27 x9_1.length co27) x9_1 (⟨x10_1, wrap64 (x10_1 + 1)⟩ : S133) [.int .i64 x10_1, .int .i64 (wrap64 (x10_1 + 1))] (fun _ => True) (fun _ => False) rfl rfl ?aP (fun _ hk => hk.elim) ?aF ?aO ?aB ?aS ?aL ?_; (case aP => exact k133_mkM _ _ _ (⟨x10_1, wrap64 (x10_1 + 1)⟩ : S133)); (case aB => exact (by repeat (first | (with_reducible first | exact HB.out | apply below_alloc | apply pw_below_drewN | apply below_drew1) | exact HB.out))); (case aF => exact (fun _ _ => trivial)); (case aO => exact (by (with_reducible repeat (first | apply Kd.R_alloc | apply Kd.R_drewN | apply Kd.R_drew)); exact HO_9.out)); (case aS => exact (below_size (by repeat (first | (with_reducible first | exact HB.out | apply below_alloc | apply pw_below_drewN | apply below_drew1) | exact HB.out)))); (case aL => have := LMc26.out; omega); intro v174 w28 ho hb hg hat; rw [← Ny173.out] at ho; have n0_ := Aside0.mk (hb); have n1_ := Aside0.mk (ho); clear HB; clear HO_9; have HB := n0_; have HO175 := n1_; clear n0_ n1_; clear ho hb hg hat))
         go_roundg kj8
         case measure => have := HK1.out; have := HJ8.out; omega
         case rel => exact ⟨(y173), (wrap64 (x10_1 + 1)), (by first | rfl | (simp; done) | (simp [*]; done)), H', ⟨by have := HK1.out; have := HJ8.out; omega⟩, ⟨by (with_reducible repeat (first | apply Kd.R_alloc | apply Kd.R_drewN | apply Kd.R_drew)); exact HO175.out⟩, ⟨by repeat (first | (with_reducible first | exact HB.out | apply below_alloc | apply pw_below_drewN | apply below_drew1) | exact HB.out)⟩⟩
        ·rw [if_neg c26] at H
         exact absurd H (by simp)
   ·rw [if_neg c5] at H
    have c5b0 : decide (x10_1 < (l0.length : Int)) = false := decide_eq_false c5
    clear c5
    obtain rfl := Option.some.inj H
    go_wp2
    go_ret
    exact ⟨_, by first | rfl | (simp [errW_none, errW_some] <;> rfl) | (simp [*, errW_none, errW_some] <;> rfl), by (with_reducible repeat (first | apply Kd.R_alloc | apply Kd.R_drewN | apply Kd.R_drew)); exact HO_9.out, by repeat (first | (with_reducible first | exact HB.out | apply below_alloc | apply pw_below_drewN | apply below_drew1) | exact HB.out)⟩
def redraftlaw03_EqRuns.l0 : Nat → List (S58) → List (S58) → Int → Option (Bool)
 | 0, _, _, _ => none
 | k + 1, x0, x1, x5 => if x5 < (x0.length : Int) then (if 0 ≤ x5 then (if x5 < (x1.length : Int) then (if (!((((rd_T58 x0 x5).f0).toList) == (((rd_T58 x1 x5).f0).toList)) || (!(((rd_T58 x0 x5).f1) == ((rd_T58 x1 x5).f1)))) = true then (some false) else (redraftlaw03_EqRuns.l0 k x0 x1 (wrap64 (x5 + 1)))) else (none)) else (none)) else (some true)
def redraftlaw03_EqRuns.f (k : Nat) (l0 : List (S58)) (l1 : List (S58)) : Option (Bool) := if (l0.length : Int) = (l1.length : Int) then (redraftlaw03_EqRuns.l0 k l0 l1 0) else (some false)
theorem redraftlaw03_EqRuns.mono_l : ∀ k, (∀ y0 y1 y2, LeO (redraftlaw03_EqRuns.l0 k y0 y1 y2) (redraftlaw03_EqRuns.l0 (k + 1) y0 y1 y2))
 | 0 => fun _ _ _ r h => by simp [redraftlaw03_EqRuns.l0] at h
 | k + 1 => by
  have ih0 := redraftlaw03_EqRuns.mono_l k
  ·intro y0 y1 y2
   unfold redraftlaw03_EqRuns.l0
   repeat' first
   | (with_reducible exact ih0 _ _ _)
   | (with_reducible exact LeO.refl _)
   | (with_reducible exact LeO.none _)
   | (with_reducible refine LeO.ite ?_ ?_)
   | (with_reducible refine LeO.bind ?_ (fun _ => ?_))
   | exact ih0 _ _ _
   | exact LeO.none _
   | refine LeO.ite ?_ ?_
   | refine LeO.bind ?_ (fun _ => ?_)
theorem redraftlaw03_EqRuns.mono : ∀ a0 a1 k, LeO (redraftlaw03_EqRuns.f k a0 a1) (redraftlaw03_EqRuns.f (k + 1) a0 a1) := by
 intro a0 a1 k
 have ih0 := redraftlaw03_EqRuns.mono_l k
 unfold redraftlaw03_EqRuns.f
 repeat' first
   | (with_reducible exact ih0 _ _ _)
   | (with_reducible exact LeO.refl _)
   | (with_reducible exact LeO.none _)
   | (with_reducible refine LeO.ite ?_ ?_)
   | (with_reducible refine LeO.bind ?_ (fun _ => ?_))
   | exact ih0 _ _ _
   | exact LeO.none _
   | refine LeO.ite ?_ ?_
   | refine LeO.bind ?_ (fun _ => ?_)
set_option maxHeartbeats 8000000 in
set_option maxRecDepth 100000 in
theorem redraftlaw03_EqRuns.calls (k : Nat) (A0 : Option Addr) (c0 : Nat) (l0 : List (S58)) (A1 : Option Addr) (c1 : Nat) (l1 : List (S58)) (r : Bool) (w : World) (hr0 : Kd.C k58 w A0 l0.length l0) (hc0 : l0.length ≤ c0) (hr1 : Kd.C k58 w A1 l1.length l1) (hc1 : l1.length ≤ c1) (h : redraftlaw03_EqRuns.f k l0 l1 = some r) :
  Calls Tryd.prog 35 #[.slice A0 l0.length c0, .slice A1 l1.length c1] w fun e w' => e = .returned (.bool r) ∧ Drawn0 w w' := by
 have hu58 := Tryd.underlying58
 have HR0 := Aside0.mk hr0
 have HC0 := Aside0.mk hc0
 clear hr0 hc0
 have HR1 := Aside0.mk hr1
 have HC1 := Aside0.mk hc1
 clear hr1 hc1
 have H : (if (l0.length : Int) = (l1.length : Int) then (redraftlaw03_EqRuns.l0 k l0 l1 0) else (some false)) = some r := h
 clear h
 by_cases c3 : (l0.length : Int) = (l1.length : Int)
 ·rw [if_pos c3] at H
  have c3b0 : ((l0.length : Int) == (l1.length : Int)) = true := beq_iff_eq.mpr c3
  have c3b1 : ((l0.length : Int) != (l1.length : Int)) = false := bne_eq_false_iff_eq.mpr c3
  have c3b2 : (l0.length == l1.length) = true := by first | simpa using c3 | (simp at c3 ⊢; omega)
  clear c3
  have H' := Aside0.mk H
  clear H
  go_enter Tryd.func35, Tryd.ntmps35
  go_wp2
  repeat (go_quiet (fail); try go_wp2)
  go_loopg [5] k (fun kq v5 w' => ∃ (x5_1 : Int), v5 = .int .i64 x5_1 ∧ Aside0 (redraftlaw03_EqRuns.l0 kq l0 l1 x5_1 = some r) ∧ Aside0 (kq ≤ k) ∧ Drawn0 w w')
  case atStart => exact ⟨(0), (by first | rfl | (simp; done) | (simp [*]; done)), H', ⟨Nat.le_refl _⟩, by repeat (first | exact Drawn0.refl _ | apply Drawn0.step)⟩
  case round =>
   clear H'
   try clear c1
   try clear p2
   try clear c3
   try clear c3b0
   try clear c3b1
   try clear c3b2
   obtain ⟨x5_1, rfl, HA, HK1, ⟨m1, rfl⟩⟩ := hrel
   cases gk with
   | zero => exact absurd HA.out (by simp [redraftlaw03_EqRuns.l0])
   | succ k1 =>
    have H := HA.out
    clear HA
    simp only [redraftlaw03_EqRuns.l0] at H
    by_cases c4 : x5_1 < (l0.length : Int)
    ·rw [if_pos c4] at H
     have c4b0 : decide (x5_1 < (l0.length : Int)) = true := decide_eq_true c4
     clear c4
     by_cases c5 : 0 ≤ x5_1
     ·rw [if_pos c5] at H
      have c5b0 : decide (0 ≤ x5_1) = true := decide_eq_true c5
      clear c5
      by_cases c6 : x5_1 < (l1.length : Int)
      ·rw [if_pos c6] at H
       have c6b0 : decide (x5_1 < (l1.length : Int)) = true := decide_eq_true c6
       clear c6
       by_cases c7 : (!((((rd_T58 l0 x5_1).f0).toList) == (((rd_T58 l1 x5_1).f0).toList)) || (!(((rd_T58 l0 x5_1).f1) == ((rd_T58 l1 x5_1).f1)))) = true
       ·rw [if_pos c7] at H
        have c7b0 : (!((((rd_T58 l0 x5_1).f0).toList) == (((rd_T58 l1 x5_1).f0).toList)) || (!(((rd_T58 l0 x5_1).f1) == ((rd_T58 l1 x5_1).f1)))) = true := c7
        clear c7
        obtain rfl := Option.some.inj H
        have p185 : 0 ≤ (x5_1 : Int) := of_decide_eq_true (by first | (with_reducible assumption) | assumption)
        have q185 : x5_1 < (l0.length : Int) := of_decide_eq_true (by first | (with_reducible assumption) | assumption)
        obtain ⟨ad185, e185, hx185_0, hx185_1⟩ := at_T58 HR0.out x5_1 p185 q185
        cases e185
        replace p185 := eq_true p185
        replace q185 := eq_true q185
        have p186 : 0 ≤ (x5_1 : Int) := of_decide_eq_true (by first | (with_reducible assumption) | assumption)
        have q186 : x5_1 < (l1.length : Int) := of_decide_eq_true (by first | (with_reducible assumption) | assumption)
        obtain ⟨ad186, e186, hx186_0, hx186_1⟩ := at_T58 HR1.out x5_1 p186 q186
        cases e186
        replace p186 := eq_true p186
        replace q186 := eq_true q186
        go_wp2
        repeat (go_quiet (fail); try go_wp2)
        go_ret
        exact ⟨by first | rfl | (simp; done) | (simp [*]; done), by repeat (first | exact Drawn0.refl _ | apply Drawn0.step)⟩
       ·rw [if_neg c7] at H
        have c7b0 : (!((((rd_T58 l0 x5_1).f0).toList) == (((rd_T58 l1 x5_1).f0).toList)) || (!(((rd_T58 l0 x5_1).f1) == ((rd_T58 l1 x5_1).f1)))) = false := by simpa using c7
        clear c7
        have H' := Aside0.mk H
        clear H
        have p185 : 0 ≤ (x5_1 : Int) := of_decide_eq_true (by first | (with_reducible assumption) | assumption)
        have q185 : x5_1 < (l0.length : Int) := of_decide_eq_true (by first | (with_reducible assumption) | assumption)
        obtain ⟨ad185, e185, hx185_0, hx185_1⟩ := at_T58 HR0.out x5_1 p185 q185
        cases e185
        replace p185 := eq_true p185
        replace q185 := eq_true q185
        have p186 : 0 ≤ (x5_1 : Int) := of_decide_eq_true (by first | (with_reducible assumption) | assumption)
        have q186 : x5_1 < (l1.length : Int) := of_decide_eq_true (by first | (with_reducible assumption) | assumption)
        obtain ⟨ad186, e186, hx186_0, hx186_1⟩ := at_T58 HR1.out x5_1 p186 q186
        cases e186
        replace p186 := eq_true p186
        replace q186 := eq_true q186
        go_wp2
        repeat (go_quiet (fail); try go_wp2)
        go_roundg k1
        case measure => have := HK1.out; omega
        case rel => exact ⟨(wrap64 (x5_1 + 1)), (by first | rfl | (simp; done) | (simp [*]; done)), H', ⟨by have := HK1.out; omega⟩, by repeat (first | exact Drawn0.refl _ | apply Drawn0.step)⟩
      ·rw [if_neg c6] at H
       exact absurd H (by simp)
     ·rw [if_neg c5] at H
      exact absurd H (by simp)
    ·rw [if_neg c4] at H
     have c4b0 : decide (x5_1 < (l0.length : Int)) = false := decide_eq_false c4
     clear c4
     obtain rfl := Option.some.inj H
     go_wp2
     repeat (go_quiet (fail); try go_wp2)
     go_ret
     exact ⟨by first | rfl | (simp; done) | (simp [*]; done), by repeat (first | exact Drawn0.refl _ | apply Drawn0.step)⟩
 ·rw [if_neg c3] at H
  have c3b0 : ((l0.length : Int) == (l1.length : Int)) = false := beq_eq_false_iff_ne.mpr c3
  have c3b1 : ((l0.length : Int) != (l1.length : Int)) = true := bne_iff_ne.mpr c3
  have c3b2 : (l0.length == l1.length) = false := by first | simpa using c3 | (simp at c3 ⊢; omega)
  obtain rfl := Option.some.inj H
  go_enter Tryd.func35, Tryd.ntmps35
  go_wp2
  repeat (go_quiet (fail); try go_wp2)
  go_ret
  exact ⟨by first | rfl | (simp; done) | (simp [*]; done), by repeat (first | exact Drawn0.refl _ | apply Drawn0.step)⟩
def span_Count.l0 : Nat → Int → List (S133) → Int → Int → Option (Int × Int)
 | 0, _, _, _, _ => none
 | k + 1, x6, x17, x18, x19 => if x19 < x18 then (if 0 ≤ x19 then (if x19 < (x17.length : Int) then (span_Count.l0 k (wrap64 (x6 + (wrap64 (((rd_T133 x17 x19).f1) - ((rd_T133 x17 x19).f0))))) x17 x18 (wrap64 (x19 + 1))) else (none)) else (none)) else (some (x6, 0))
def span_Count.f (k : Nat) (l0 : List (S133)) : Option (Int × Int) := (span_Check.f k l0).bind fun bt187 => (if bt187.2 = 0 then (span_Count.l0 k 0 l0 (l0.length : Int) 0) else (some (0, bt187.2)))
theorem span_Count.mono_l : ∀ k, (∀ y0 y1 y2 y3, LeO (span_Count.l0 k y0 y1 y2 y3) (span_Count.l0 (k + 1) y0 y1 y2 y3))
 | 0 => fun _ _ _ _ r h => by simp [span_Count.l0] at h
 | k + 1 => by
  have ih0 := span_Count.mono_l k
  ·intro y0 y1 y2 y3
   unfold span_Count.l0
   repeat' first
   | (with_reducible exact ih0 _ _ _ _)
   | (with_reducible exact span_Check.mono _ _)
   | (with_reducible exact LeO.refl _)
   | (with_reducible exact LeO.none _)
   | (with_reducible refine LeO.ite ?_ ?_)
   | (with_reducible refine LeO.bind ?_ (fun _ => ?_))
   | exact ih0 _ _ _ _
   | exact span_Check.mono _ _
   | exact LeO.none _
   | refine LeO.ite ?_ ?_
   | refine LeO.bind ?_ (fun _ => ?_)
theorem span_Count.mono : ∀ a0 k, LeO (span_Count.f k a0) (span_Count.f (k + 1) a0) := by
 intro a0 k
 have ih0 := span_Count.mono_l k
 unfold span_Count.f
 repeat' first
   | (with_reducible exact ih0 _ _ _ _)
   | (with_reducible exact span_Check.mono _ _)
   | (with_reducible exact LeO.refl _)
   | (with_reducible exact LeO.none _)
   | (with_reducible refine LeO.ite ?_ ?_)
   | (with_reducible refine LeO.bind ?_ (fun _ => ?_))
   | exact ih0 _ _ _ _
   | exact span_Check.mono _ _
   | exact LeO.none _
   | refine LeO.ite ?_ ?_
   | refine LeO.bind ?_ (fun _ => ?_)
set_option maxHeartbeats 8000000 in
set_option maxRecDepth 100000 in
theorem span_Count.calls (k : Nat) (A0 : Option Addr) (c0 : Nat) (l0 : List (S133)) (r1 : Int) (r2 : Int) (w : World) (hr0 : Kd.C k133 w A0 l0.length l0) (hc0 : l0.length ≤ c0) (h : span_Count.f k l0 = some (r1, r2)) :
  Calls Tryd.prog 38 #[.slice A0 l0.length c0] w fun e w' => e = .returned (.tuple #[.int .i64 r1, .int .i64 r2]) ∧ Below w.heap.size w w' := by
 have hu133 := Tryd.underlying133
 have HR0 := Aside0.mk hr0
 have HC0 := Aside0.mk hc0
 clear hr0 hc0
 have HB := Aside0.mk (Below.refl w.heap.size w)
 have H : ((span_Check.f k l0).bind fun bt187 => (if bt187.2 = 0 then (span_Count.l0 k 0 l0 (l0.length : Int) 0) else (some (0, bt187.2)))) = some (r1, r2) := h
 clear h
 replace H := Option.bind_eq_some_iff.mp H
 obtain ⟨⟨t187, t188⟩, A20, H⟩ := H
 replace H : (if t188 = 0 then (span_Count.l0 k 0 l0 (l0.length : Int) 0) else (some (0, t188))) = some (r1, r2) := H
 have A2 := Aside0.mk A20
 clear A20
 by_cases c3 : t188 = 0
 ·rw [if_pos c3] at H
  have c3b0 : (t188 == 0) = true := beq_iff_eq.mpr c3
  have c3b1 : (t188 != 0) = false := bne_eq_false_iff_eq.mpr c3
  clear c3
  have H' := Aside0.mk H
  clear H
  go_enter Tryd.func38, Tryd.ntmps38
  go_wp2_with (first | ((with_reducible refine gate_callee (f := 37) rfl ?_); refine goesL_ (some 11) rfl rfl Tryd.func37 (by kernel_rfl) rfl #[.slice A0 l0.length c0] rfl (by (try simp only [List.map_toArray, List.map_cons, List.map_nil]); first | done | rfl | (simp only [List.length_drop, List.length_take]; rfl)) ?_; (with_reducible refine (span_Check.calls k _ _ l0 t187 t188 _ ?side1 ?side2 A2.out).mono ?_); (case side1 => repeat (first | exact HR0.out | (with_reducible refine Kd.C_alloc ?_ _) | (with_reducible refine Kd.C_drewN ?_ _) | (with_reducible refine Kd.C_drew ?_))); (case side2 => exact HC0.out); rintro e w4 ⟨rfl, hb⟩; refine ⟨_, rfl, ?_⟩; have n0_ := Aside0.mk (below_step (by repeat (first | (with_reducible first | exact HB.out | apply below_alloc | apply pw_below_drewN | apply below_drew1) | exact HB.out)) hb); clear HB; have HB := n0_; clear n0_; (try clear hb); (try clear hb2); (try clear hk); (try clear hi)))
  go_loopg [6, 19] k (fun kq v6 v19 w' => ∃ (x6_1 : Int) (x19_1 : Int), v6 = .int .i64 x6_1 ∧ v19 = .int .i64 x19_1 ∧ Aside0 (span_Count.l0 kq x6_1 l0 (l0.length : Int) x19_1 = some (r1, r2)) ∧ Aside0 (kq ≤ k) ∧ Aside0 (Below w.heap.size w w'))
  case atStart => exact ⟨(0), (0), (by first | rfl | (simp; done) | (simp [*]; done)), (by first | rfl | (simp; done) | (simp [*]; done)), H', ⟨Nat.le_refl _⟩, ⟨by repeat (first | (with_reducible first | exact HB.out | apply below_alloc | apply pw_below_drewN | apply below_drew1) | exact HB.out)⟩⟩
  case round =>
   clear H'
   try clear p2
   try clear c3
   try clear c3b0
   try clear c3b1
   obtain ⟨x6_1, x19_1, rfl, rfl, HA, HK1, HB⟩ := hrel
   cases gk with
   | zero => exact absurd HA.out (by simp [span_Count.l0])
   | succ k1 =>
    have H := HA.out
    clear HA
    simp only [span_Count.l0] at H
    by_cases c5 : x19_1 < (l0.length : Int)
    ·rw [if_pos c5] at H
     have c5b0 : decide (x19_1 < (l0.length : Int)) = true := decide_eq_true c5
     clear c5
     by_cases c6 : 0 ≤ x19_1
     ·rw [if_pos c6] at H
      have c6b0 : decide (0 ≤ x19_1) = true := decide_eq_true c6
      clear c6
      by_cases c7 : x19_1 < (l0.length : Int)
      ·rw [if_pos c7] at H
       have c7b0 : decide (x19_1 < (l0.length : Int)) = true := decide_eq_true c7
       clear c7
       have H' := Aside0.mk H
       clear H
       have p189 : 0 ≤ (x19_1 : Int) := of_decide_eq_true (by first | (with_reducible assumption) | assumption)
       have q189 : x19_1 < (l0.length : Int) := of_decide_eq_true (by first | (with_reducible assumption) | assumption)
       obtain ⟨ad189, e189, hx189_0, hx189_1⟩ := at_T133 HR0.out x19_1 p189 q189
       cases e189
       replace hx189_0 := (HB.out.cell (World.block_lt_of_cell? w _ hx189_0)).trans hx189_0
       replace hx189_1 := (HB.out.cell (World.block_lt_of_cell? w _ hx189_1)).trans hx189_1
       replace p189 := eq_true p189
       replace q189 := eq_true q189
       go_wp2_with (first | ((with_reducible refine gate_dst (N := 8) rfl ?_); refine box_event ?hg (N := 8) ?hd (cs := #[.int .i64 0, .int .i64 0]) (t := 133) ?hr ?_; (case hd => rfl); (case hg => rfl); (case hr => first | (go_simp; done) | (go_simp; rfl)); intro gb190 hg w8 hbox hb; have n0_ := Aside0.mk (below_step (by repeat (first | (with_reducible first | exact HB.out | apply below_alloc | apply pw_below_drewN | apply below_drew1) | exact HB.out)) hb); have n1_ := Aside0.mk (hbox); have n2_ := Aside0.mk ((by rw [hg]; exact (below_size (by repeat (first | (with_reducible first | exact HB.out | apply below_alloc | apply pw_below_drewN | apply below_drew1) | exact HB.out))) : w.heap.size ≤ gb190)); have n3_ := Aside0.mk ((by rw [hg]; exact (below_size (by repeat (first | (with_reducible first | exact HB.out | apply below_alloc | apply pw_below_drewN | apply below_drew1) | exact HB.out))) : w.heap.size ≤ gb190)); clear HB; have HB := n0_; have BK190 := n1_; have GW190 := n2_; have GE190 := n3_; clear n0_ n1_ n2_ n3_; clear hb hbox hg; have hcz9_0 : w8.cell? ⟨gb190, 0, none⟩ = some (.int .i64 0) := (blk_cell BK190.out 0).trans rfl; have hcz9_1 : w8.cell? ⟨gb190, 1, none⟩ = some (.int .i64 0) := (blk_cell BK190.out 1).trans rfl; have hfz9_0 := blk_frozen BK190.out 0; have hfz9_1 := blk_frozen BK190.out 1))
       go_roundg k1
       case measure => have := HK1.out; omega
       case rel => exact ⟨(wrap64 (x6_1 + (wrap64 (((rd_T133 l0 x19_1).f1) - ((rd_T133 l0 x19_1).f0))))), (wrap64 (x19_1 + 1)), (by first | rfl | (simp; done) | (simp [*]; done)), (by first | rfl | (simp; done) | (simp [*]; done)), H', ⟨by have := HK1.out; omega⟩, ⟨by repeat (first | (with_reducible first | exact HB.out | apply below_alloc | apply pw_below_drewN | apply below_drew1 | refine below_set ?_ GE190.out) | exact HB.out)⟩⟩
      ·rw [if_neg c7] at H
       exact absurd H (by simp)
     ·rw [if_neg c6] at H
      exact absurd H (by simp)
    ·rw [if_neg c5] at H
     have c5b0 : decide (x19_1 < (l0.length : Int)) = false := decide_eq_false c5
     clear c5
     simp only [Option.some.injEq, Prod.mk.injEq] at H
     obtain ⟨rfl, rfl⟩ := H
     go_wp2
     go_ret2
     exact ⟨by first | rfl | (simp [errW_none, errW_some] <;> rfl) | (simp [*, errW_none, errW_some] <;> rfl), by repeat (first | (with_reducible first | exact HB.out | apply below_alloc | apply pw_below_drewN | apply below_drew1) | exact HB.out)⟩
 ·rw [if_neg c3] at H
  have c3b0 : (t188 == 0) = false := beq_eq_false_iff_ne.mpr c3
  have c3b1 : (t188 != 0) = true := bne_iff_ne.mpr c3
  simp only [Option.some.injEq, Prod.mk.injEq] at H
  obtain ⟨rfl, rfl⟩ := H
  go_enter Tryd.func38, Tryd.ntmps38
  go_wp2_with (first | ((with_reducible refine gate_callee (f := 37) rfl ?_); refine goesL_ (some 11) rfl rfl Tryd.func37 (by kernel_rfl) rfl #[.slice A0 l0.length c0] rfl (by (try simp only [List.map_toArray, List.map_cons, List.map_nil]); first | done | rfl | (simp only [List.length_drop, List.length_take]; rfl)) ?_; (with_reducible refine (span_Check.calls k _ _ l0 t187 t188 _ ?side1 ?side2 A2.out).mono ?_); (case side1 => repeat (first | exact HR0.out | (with_reducible refine Kd.C_alloc ?_ _) | (with_reducible refine Kd.C_drewN ?_ _) | (with_reducible refine Kd.C_drew ?_))); (case side2 => exact HC0.out); rintro e w10 ⟨rfl, hb⟩; refine ⟨_, rfl, ?_⟩; have n0_ := Aside0.mk (below_step (by repeat (first | (with_reducible first | exact HB.out | apply below_alloc | apply pw_below_drewN | apply below_drew1) | exact HB.out)) hb); clear HB; have HB := n0_; clear n0_; (try clear hb); (try clear hb2); (try clear hk); (try clear hi)))
  go_ret2
  exact ⟨by first | rfl | (simp [errW_none, errW_some] <;> rfl) | (simp [*, errW_none, errW_some] <;> rfl), by repeat (first | (with_reducible first | exact HB.out | apply below_alloc | apply pw_below_drewN | apply below_drew1) | exact HB.out)⟩
def redraftlaw03_at.f (a0 : Int) : Option (Int) := some (Int.tmod (wrap64 ((Int.tmod a0 3) + 3)) 3)
set_option maxHeartbeats 8000000 in
set_option maxRecDepth 100000 in
theorem redraftlaw03_at.calls (a0 : Int) (r : Int) (w : World) (h : redraftlaw03_at.f a0 = some r) :
  Calls Tryd.prog 79 #[.int .i64 a0] w fun e w' => e = .returned (.int .i64 r) ∧ Drawn0 w w' := by
 have H : (some (Int.tmod (wrap64 ((Int.tmod a0 3) + 3)) 3)) = some r := h
 clear h
 obtain rfl := Option.some.inj H
 go_enter Tryd.func79, Tryd.ntmps79
 go_wp2
 go_ret
 exact ⟨by first | rfl | (simp; done) | (simp [*]; done), by repeat (first | exact Drawn0.refl _ | apply Drawn0.step)⟩
end Go.Proofs.YteeigokkafcaaaaDoor.Pr
end
section
namespace Go.Proofs.YteeigokkafcaaaaDoorRope
open Go.RowKit Go.Proofs.YteeigokkafcaaaaDoorW.PrintWords Go.Proofs.YteeigokkafcaaaaDoorW.PrintMore Go.Proofs.YteeigokkafcaaaaDoor.Pr
set_option linter.unusedSimpArgs false
set_option linter.unusedVariables false
def cnt (l : List (Nat × Nat)) (q : Nat) : Nat := (l.filter (fun r => decide (r.1 ≤ q ∧ q < r.2))).length
theorem cnt_cons (r : Nat × Nat) (l : List (Nat × Nat)) (q : Nat) : cnt (r :: l) q = (if r.1 ≤ q ∧ q < r.2 then 1 else 0) + cnt l q := by
  unfold cnt
  by_cases c : r.1 ≤ q ∧ q < r.2
  · rw [List.filter_cons_of_pos (by simpa using c), if_pos c, List.length_cons]; omega
  · rw [List.filter_cons_of_neg (by simpa using c), if_neg c]; omega
theorem bump1_get {cs : List (Int × Int)} {r : Nat × Nat} {b : Int} (h1 : r.1 ≤ r.2) (h2 : r.2 ≤ cs.length) (q : Nat) : (bump1 cs r b)[q]? = cs[q]?.map (fun c => (c.1, c.2 + (if r.1 ≤ q ∧ q < r.2 then b else 0))) := by
  have l1 : (cs.take r.1).length = r.1 := by rw [List.length_take]; omega
  have l2 : (((cs.take r.2).drop r.1).map (fun c => (c.1, c.2 + b))).length = r.2 - r.1 := by rw [List.length_map, List.length_drop, List.length_take]; omega
  unfold bump1
  by_cases c1 : q < r.1
  · rw [List.append_assoc, List.getElem?_append_left (by omega), List.getElem?_take_of_lt c1]
    simp only [show ¬ (r.1 ≤ q ∧ q < r.2) by omega, if_false, Int.add_zero]
    cases cs[q]? <;> rfl
  · by_cases c2 : q < r.2
    · rw [List.append_assoc, List.getElem?_append_right (by omega), l1, List.getElem?_append_left (by omega), List.getElem?_map, List.getElem?_drop, List.getElem?_take_of_lt (by omega), show r.1 + (q - r.1) = q by omega]
      simp only [show (r.1 ≤ q ∧ q < r.2) from ⟨by omega, c2⟩, and_self, if_true]
    · rw [List.getElem?_append_right (by rw [List.length_append]; omega), List.getElem?_drop, List.length_append, l1, l2, show r.2 + (q - (r.1 + (r.2 - r.1))) = q by omega]
      simp only [show ¬ (r.1 ≤ q ∧ q < r.2) by omega, if_false, Int.add_zero]
      cases cs[q]? <;> rfl
theorem bumpC_get {b : Int} : ∀ (l : List (Nat × Nat)) (cs : List (Int × Int)), (∀ r ∈ l, r.1 ≤ r.2 ∧ r.2 ≤ cs.length) → ∀ q : Nat, (bumpC cs l b)[q]? = cs[q]?.map (fun c => (c.1, c.2 + b * (cnt l q : Int)))
  | [], cs, _, q => by
    simp only [bumpC, List.foldl_nil, cnt, List.filter_nil, List.length_nil]
    cases cs[q]? <;> simp
  | r :: l, cs, h, q => by
    have hr := h r (by simp)
    have hl := bump1_len (b := b) hr.1 hr.2
    have ih := bumpC_get (b := b) l (bump1 cs r b) (fun x hx => by rw [hl]; exact h x (List.mem_cons_of_mem _ hx)) q
    have e : bumpC cs (r :: l) b = bumpC (bump1 cs r b) l b := rfl
    rw [e, ih, bump1_get hr.1 hr.2, cnt_cons]
    cases cs[q]? with
    | none => rfl
    | some c =>
      simp only [Option.map_some]
      congr 2
      by_cases k : r.1 ≤ q ∧ q < r.2
      · simp only [k, and_self, if_true]
        rw [show ((1 + cnt l q : Nat) : Int) = 1 + (cnt l q : Int) by omega, Int.mul_add, Int.mul_one, Int.add_assoc]
      · simp only [k, if_false, Int.add_zero, Nat.zero_add]
theorem bumpC_len2 {b : Int} {l : List (Nat × Nat)} {cs : List (Int × Int)} (h : ∀ r ∈ l, r.1 ≤ r.2 ∧ r.2 ≤ cs.length) : (bumpC cs l b).length = cs.length := by
  have key : ∀ q : Nat, (bumpC cs l b)[q]? = none ↔ cs[q]? = none := by
    intro q
    rw [bumpC_get l cs h]
    cases cs[q]? <;> simp
  have k1 := key (bumpC cs l b).length
  have k2 := key cs.length
  simp only [List.getElem?_eq_none_iff] at k1 k2
  omega
theorem cnt_flat : ∀ (l : List (Nat × Nat)), (∀ r ∈ l, r.1 < r.2) → l.Pairwise (fun a b => a.2 < b.1) → ∀ q, cnt l q = if q ∈ flat l then 1 else 0
  | [], _, _, q => by simp [cnt, flat]
  | r :: l, h1, h2, q => by
    have ih := cnt_flat l (fun x hx => h1 x (List.mem_cons_of_mem _ hx)) (List.pairwise_cons.1 h2).2 q
    have hm : q ∈ flat (r :: l) ↔ (r.1 ≤ q ∧ q < r.2) ∨ q ∈ flat l := by
      have := h1 r (by simp)
      simp only [flat, List.flatMap_cons, List.mem_append, List.mem_range'_1]
      constructor
      · rintro (h | h)
        · exact .inl ⟨h.1, by omega⟩
        · exact .inr h
      · rintro (h | h)
        · exact .inl ⟨h.1, by omega⟩
        · exact .inr h
    rw [cnt_cons, ih]
    by_cases c : r.1 ≤ q ∧ q < r.2
    · have hnot : ¬ q ∈ flat l := by
        intro hq
        obtain ⟨x, hx, hq⟩ := List.mem_flatMap.1 hq
        have := (List.pairwise_cons.1 h2).1 x hx
        rw [List.mem_range'_1] at hq
        omega
      rw [if_pos c, if_neg hnot, if_pos (hm.2 (.inl c))]
    · by_cases d : q ∈ flat l
      · rw [if_neg c, if_pos d, if_pos (hm.2 (.inr d))]
      · rw [if_neg c, if_neg d, if_neg (fun h => (hm.1 h).elim c d)]
section
variable {cs cs' : List (Int × Int)} {ps : List Nat}
end
theorem inc64 {i : Nat} (h : i ≤ 32768) : wrap64 ((i : Int) + 1) = ((i + 1 : Nat) : Int) := by rw [w64 (by omega) (by omega)]; omega
end Go.Proofs.YteeigokkafcaaaaDoorRope
end
section
namespace Go.Proofs.YteeigokkafcaaaaDoorRope
open Go.RowKit Go.Proofs.YteeigokkafcaaaaDoorW.PrintWords Go.Proofs.YteeigokkafcaaaaDoorW.PrintMore Go.Proofs.YteeigokkafcaaaaDoor.Pr
set_option linter.unusedSimpArgs false
set_option linter.unusedVariables false
theorem visR_snoc {cs : List (Int × Int)} {i : Nat} (h : i < cs.length) : visR (cs.take (i + 1)) = visR (cs.take i) ++ if cs[i].2 = 0 then [cs[i].1] else [] := by
  rw [List.take_succ_eq_append_getElem h]
  unfold visR
  rw [List.filter_append, List.map_append]
  congr 1
  by_cases c : cs[i].2 = 0
  · simp [c]
  · simp [c]
set_option maxRecDepth 100000 in
set_option maxHeartbeats 4000000 in
theorem textS_calls {cs : List (Int × Int)} (hb : cs.length ≤ 1048576) (hN : ∀ c ∈ cs, Rn c.1) {w : World} {A : Option Addr} {c : Nat} (hA : Kd.C k36 w A cs.length (sCells cs)) : Calls Tryd.prog 32 #[.slice A cs.length c, .int .i64 0, .int .i64 (cs.length : Int)] w fun e w' => e = .returned (.string (txt (visR cs))) ∧ Below w.heap.size w w' := by
  have HB := Lib.hid hb
  have hlb : (cs.length : Int) ≤ 1048576 := by omega
  clear hb
  go_enter Tryd.func32, Tryd.ntmps32
  go_wp2
  go_loopw [7, 8] (fun s i wr => ∃ j : Nat, j ≤ cs.length ∧ i = .int .i64 (j : Int) ∧ s = .string (txt (visR (cs.take j))) ∧ Below w.heap.size w wr) (fun _ i _ => cs.length - (intOf i).toNat)
  case atStart => exact ⟨0, Nat.zero_le _, rfl, rfl, Below.refl _ _⟩
  case round =>
    obtain ⟨j, hj, rfl, rfl, hD⟩ := hrel
    by_cases hlt : j < cs.length
    · obtain ⟨ad, hAd, y0, y1⟩ := row_cell (Kd.C_below hA hD) hlt
      subst hAd
      have hsn := visR_snoc hlt
      have hr := hN _ (List.getElem_mem hlt)
      obtain ⟨⟨r, h⟩, hrh⟩ : ∃ x, cs[j] = x := ⟨_, rfl⟩
      rw [hrh] at y0 y1 hsn hr
      dsimp only at y0 y1 hsn hr
      clear hrh
      have hz1 := txt_size_le (visR (cs.take j))
      have hz3 := vis_le (cs.take j)
      rw [List.length_take] at hz3
      rw [visR_len] at hz1
      have hz2 := txt_size_le [r]
      simp only [List.length_singleton] at hz2
      have hbs : (((txt (visR (cs.take j))).size : Int) + ((txt [r]).size : Int)) ≤ 9223372036854775807 := by have := HB.out; omega
      have hen := encode_txt hr
      by_cases c0 : h = 0
      · rw [if_pos c0] at hsn
        have d0 : (h == 0) = true := beq_iff_eq.mpr c0
        have HS := Lib.hid hsn
        clear hsn hz1 hz2 hz3 c0 hr
        go_wp2
        go_roundw
        case rel => exact ⟨j + 1, hlt, by go_num, by rw [HS.out, txt_append], hD⟩
        case measure => simp [intOf]; omega
      · rw [if_neg c0, List.append_nil] at hsn
        have d0 : (h == 0) = false := beq_eq_false_iff_ne.mpr c0
        have HS := Lib.hid hsn
        clear hsn hz1 hz2 hz3 c0 hr hbs hen
        go_wp2
        go_roundw
        case rel => exact ⟨j + 1, hlt, by go_num, by rw [HS.out], hD⟩
        case measure => simp [intOf]; omega
    · obtain rfl : j = cs.length := by omega
      have d1 : decide (cs.length < cs.length) = false := decide_eq_false (Nat.lt_irrefl _)
      rw [List.take_length]
      clear hlt hj
      go_wp2
      go_ret
      exact ⟨rfl, hD⟩
end Go.Proofs.YteeigokkafcaaaaDoorRope
end
section
namespace Go.Proofs.YteeigokkafcaaaaDoorRope
open Go.RowKit Go.Proofs.YteeigokkafcaaaaDoorW.PrintWords Go.Proofs.YteeigokkafcaaaaDoorW.PrintMore Go.Proofs.YteeigokkafcaaaaDoor.Pr
set_option linter.unusedSimpArgs false
set_option linter.unusedVariables false
def RopeHas (W : World) (b : Nat) (cs : List (Int × Int)) : Prop := ∃ K t, RopeAt K W b t ∧ t.cells = cs
theorem RopeHas.below {W W' : World} {b : Nat} {cs : List (Int × Int)} (h : RopeHas W b cs) (hb : Below W.heap.size W W') : RopeHas W' b cs := by
  obtain ⟨K, t, h, hc⟩ := h
  exact ⟨K, t, h.below hb, hc⟩
theorem BarsAt.grown {W W' : World} {b : Nat} (h : BarsAt W) (hg : W.grownBy W' (some b)) (hb : b ≠ 0) : BarsAt W' := by
  have hl := h.lt
  obtain ⟨t, fr, h⟩ := h
  exact ⟨t, fr, (hg.block 0 hl (fun e => hb (by injection e with e; exact e.symm))).trans h⟩
def Row (S : Nat → Prop) (W : World) (A : Option Addr) (c : Nat) (cs : List (Int × Int)) : Prop := ∃ base, Kd.R k36 36 W base (fun k => ¬ S k) (.slice A cs.length c) (sCells cs)
section
variable {S : Nat → Prop} {W W' : World} {A : Option Addr} {c : Nat} {cs : List (Int × Int)}
theorem Row.below (h : Row S W A c cs) (hb : Below W.heap.size W W') : Row S W' A c cs := by
  obtain ⟨base, h⟩ := h
  exact ⟨base, Kd.R_below h hb⟩
theorem Row.grown {b : Nat} (h : Row S W A c cs) (hg : W.grownBy W' (some b)) (hb : S b) : Row S W' A c cs := by
  obtain ⟨base, h⟩ := h
  exact ⟨base, Kd.R_step h (fun k hk hl => hg.block k hl (fun e => hk (by injection e with e; rw [e]; exact hb)))⟩
theorem Row.rd (h : Row S W A c cs) : Kd.C k36 W A cs.length (sCells cs) := by
  obtain ⟨base, h⟩ := h
  have := (Kd.R_reads' h).2.2
  rwa [sCells_len] at this
theorem Row.cap (h : Row S W A c cs) : cs.length ≤ c := by
  obtain ⟨base, h⟩ := h
  exact (Kd.R_reads' h).2.1
theorem Row.of {n : Nat} (h : Kd.R k36 36 W n (fun k => n ≤ k) (.slice A cs.length c) (sCells cs)) (hS : ∀ k, S k → k < n ∨ W.heap.size ≤ k) : Row S W A c cs :=
  ⟨n, Kd.R_mono (Kd.R_bound h) (fun k hk hs => by rcases hS k hs with h' | h' <;> omega)⟩
end
section
variable {W : World} {b : Nat} {cs : List (Int × Int)}
theorem rope_total (h : RopeHas W b cs) : Calls Tryd.prog 19 #[.pointer (some ⟨b, 0, none⟩)] W fun e w' => e = .returned (.int .i64 (cs.length : Int)) ∧ Below W.heap.size W w' := by
  obtain ⟨K, t, h, rfl⟩ := h
  exact total_calls h
theorem rope_shown (h : RopeHas W b cs) : Calls Tryd.prog 20 #[.pointer (some ⟨b, 0, none⟩)] W fun e w' => e = .returned (.int .i64 (vis cs : Int)) ∧ Below W.heap.size W w' := by
  obtain ⟨K, t, h, rfl⟩ := h
  exact shownR_calls h
theorem rope_totalOf (h : RopeHas W b cs) (hsz : cs.length ≤ 1048576) {p : Nat} (hp : p ≤ vis cs) : Calls Tryd.prog 21 #[.pointer (some ⟨b, 0, none⟩), .int .i64 (p : Int)] W fun e w' => e = .returned (.tuple #[.int .i64 (nth0 cs p : Int), .int .i64 0]) ∧ Below W.heap.size W w' := by
  obtain ⟨K, t, h, rfl⟩ := h
  exact totalOf_le h hsz hp
theorem rope_totalOf_no (h : RopeHas W b cs) {p : Int} (hp : (vis cs : Int) < p) : Calls Tryd.prog 21 #[.pointer (some ⟨b, 0, none⟩), .int .i64 p] W fun e w' => e = .returned (.tuple #[.int .i64 0, .int .i64 12]) ∧ Below W.heap.size W w' := by
  obtain ⟨K, t, h, rfl⟩ := h
  exact totalOf_no h p (.inr hp)
theorem rope_before (h : RopeHas W b cs) (hsz : cs.length ≤ 1048576) {c : Nat} (hc : c ≤ cs.length) : Calls Tryd.prog 22 #[.pointer (some ⟨b, 0, none⟩), .int .i64 (c : Int)] W fun e w' => e = .returned (.tuple #[.int .i64 (vis (cs.take c) : Int), .int .i64 0]) ∧ Below W.heap.size W w' := by
  obtain ⟨K, t, h, rfl⟩ := h
  exact before_yes h hsz c hc
theorem rope_cell (h : RopeHas W b cs) (hsz : cs.length ≤ 1048576) {p : Nat} (hp : p < cs.length) : Calls Tryd.prog 34 #[.pointer (some ⟨b, 0, none⟩), .int .i64 (p : Int)] W fun e w' => e = .returned (.tuple #[.agg #[.int .i32 cs[p].1, .int .i64 cs[p].2], .int .i64 0]) ∧ Below W.heap.size W w' := by
  obtain ⟨K, t, h, rfl⟩ := h
  exact cell_yes h hsz p _ (List.getElem?_eq_getElem hp)
theorem rope_cell_no (h : RopeHas W b cs) {p : Nat} (hp : cs.length ≤ p) : Calls Tryd.prog 34 #[.pointer (some ⟨b, 0, none⟩), .int .i64 (p : Int)] W fun e w' => e = .returned (.tuple #[.agg #[.int .i32 0, .int .i64 0], .int .i64 12]) ∧ Below W.heap.size W w' := by
  obtain ⟨K, t, h, rfl⟩ := h
  exact cell_no h p hp
theorem rope_text (h : RopeHas W b cs) (hsz : cs.length ≤ 1048576) (hN : ∀ c ∈ cs, Rn c.1) : Calls Tryd.prog 30 #[.pointer (some ⟨b, 0, none⟩)] W fun e w' => e = .returned (.string (txt (visR cs))) ∧ Below W.heap.size W w' := by
  obtain ⟨K, t, h, rfl⟩ := h
  exact text_calls h hsz hN
theorem rope_insert (h : RopeHas W b cs) (hw : BarsAt W) {at_ : Nat} {l : List Int} {hd : Int} (ha : at_ ≤ cs.length) (hl : Lets l) (hne : l ≠ []) (hh : 0 ≤ hd ∧ hd ≤ 1048576) (hsz : cs.length + l.length ≤ 1048576) : Calls Tryd.prog 33 #[.pointer (some ⟨b, 0, none⟩), .int .i64 (at_ : Int), .string (txt l), .int .i64 hd] W fun e w' => e = .returned (.int .i64 0) ∧ RopeHas w' b (insC cs at_ l hd) ∧ W.grownBy w' (some b) := by
  obtain ⟨K, t, h, rfl⟩ := h
  refine (insert_yes h hw ha hl hne hh hsz).mono ?_
  rintro e w' ⟨t', he, h', hc, hg⟩
  exact ⟨he, ⟨_, t', h', hc⟩, hg⟩
theorem rope_bump (h : RopeHas W b cs) {l : List (Nat × Nat)} {by_ : Int} (hby : by_ = 1 ∨ by_ = -1) (hN : Norm l cs.length) (hok : BumpOk cs l by_) (hsz : cs.length ≤ 1048576) {A : Option Addr} {c : Nat} (hA : Kd.C k133 W A l.length (sRng l)) (hc : l.length ≤ c) : Calls Tryd.prog 39 #[.pointer (some ⟨b, 0, none⟩), .slice A l.length c, .int .i64 by_] W fun e w' => e = .returned (.int .i64 0) ∧ RopeHas w' b (bumpC cs l by_) ∧ W.grownBy w' (some b) := by
  obtain ⟨K, t, h, rfl⟩ := h
  rcases hby with rfl | rfl
  · refine (bump_up h hN hok hsz hA hc).mono ?_
    rintro e w' ⟨t', he, h', hc, hg⟩
    exact ⟨he, ⟨_, t', h', hc⟩, hg⟩
  · refine (bump_down h hN hok hsz hA hc).mono ?_
    rintro e w' ⟨t', he, h', hc, hg⟩
    exact ⟨he, ⟨_, t', h', hc⟩, hg⟩
end
theorem ins_rn {cs : List (Int × Int)} {n : Nat} {l : List Int} {h : Int} (hc : ∀ c ∈ cs, Rn c.1) (hl : ∀ r ∈ l, Rn r) : ∀ c ∈ insC cs n l h, Rn c.1 := by
  intro c hm
  rw [insC, List.mem_append, List.mem_append] at hm
  rcases hm with (hm | hm) | hm
  · exact hc _ (List.mem_of_mem_take hm)
  · obtain ⟨r, hr, rfl⟩ := List.mem_map.1 hm
    exact hl r hr
  · exact hc _ (List.mem_of_mem_drop hm)
end Go.Proofs.YteeigokkafcaaaaDoorRope
end
section
namespace Go.Proofs.YteeigokkafcaaaaDoorRope
open Go.RowKit Go.Proofs.YteeigokkafcaaaaDoorW.PrintWords Go.Proofs.YteeigokkafcaaaaDoorW.PrintMore Go.Proofs.YteeigokkafcaaaaDoor.Pr
set_option linter.unusedSimpArgs false
set_option linter.unusedVariables false
theorem runs_c {ps : List (Int × Int)} {w : World} {A : Option Addr} {c : Nat} (hA : Kd.C k97 w A ps.length ps) (hc : ps.length ≤ c) (hm : ps.length ≤ 140737488355328) :
    Calls Tryd.prog 15 #[.slice A ps.length c] w fun e w' => ∃ A' c', e = .returned (.slice A' (runsL ps).length c') ∧ Kd.C k58 w' A' (runsL ps).length (sRuns (runsL ps)) ∧ (runsL ps).length ≤ c' ∧ Below w.heap.size w w' := by
  refine (runs_calls hA hc hm).mono ?_
  rintro e w' ⟨A', c', he, hR, hb⟩
  have h1 := (Kd.R_reads' hR).2
  rw [show (sRuns (runsL ps)).length = (runsL ps).length from by simp [sRuns]] at h1
  exact ⟨A', c', he, h1.2, h1.1, hb⟩
theorem row_c {ps : List (Int × Int)} {w : World} {A : Option Addr} {c : Nat} (hA : Kd.C k58 w A (runsL ps).length (sRuns (runsL ps))) :
    Calls Tryd.prog 16 #[.slice A (runsL ps).length c] w fun e w' => ∃ A' c', e = .returned (.slice A' (rcells (runsL ps)).length c') ∧ Row (fun b => w'.heap.size ≤ b) w' A' c' (rcells (runsL ps)) ∧ Below w.heap.size w w' := by
  have hg := runsL_good ps
  have h1 := runsL_cells ps
  have h2 := runsL_len ps
  refine (cells_calls (fun x hx => (hg.one x hx).2.1) (by omega) (by omega) hA).mono ?_
  rintro e w' ⟨A', c', he, hR, hb⟩
  exact ⟨A', c', he, Row.of hR (fun k hk => .inr hk), hb⟩
theorem Row.less {S S' : Nat → Prop} {W : World} {A : Option Addr} {c : Nat} {cs : List (Int × Int)} (h : Row S W A c cs) (hS : ∀ k, S' k → S k) : Row S' W A c cs := by
  obtain ⟨base, h⟩ := h
  exact ⟨base, Kd.R_mono h (fun k hk hs => hk (hS k hs))⟩
theorem from_c {ps : List (Int × Int)} {w : World} {A : Option Addr} {c : Nat} (hw : BarsAt w) (hA : Kd.C k58 w A (runsL ps).length (sRuns (runsL ps))) (hc : (runsL ps).length ≤ c) :
    Calls Tryd.prog 18 #[.slice A (runsL ps).length c] w fun e w' => ∃ b, e = .returned (.tuple #[.pointer (some ⟨b, 0, none⟩), .int .i64 0]) ∧ w.heap.size ≤ b ∧ b ≠ 0 ∧ RopeHas w' b (rcells (runsL ps)) ∧ Below w.heap.size w w' := by
  have h1 := runsL_cells ps
  have h2 := runsL_len ps
  refine (from_yes (runsL_good ps) (by omega) (by omega) hw hA hc).mono ?_
  rintro e w' ⟨b, t, he, hb, hR, hct, hB⟩
  exact ⟨b, he, hb, by have := hw.lt; omega, ⟨_, t, hR, hct⟩, hB⟩
theorem rcells_rn (ps : List (Int × Int)) : ∀ c ∈ rcells (runsL ps), Rn c.1 := by
  intro c hc
  unfold rcells at hc
  obtain ⟨x, hx, hc⟩ := List.mem_flatMap.1 hc
  obtain ⟨r, hr, rfl⟩ := List.mem_map.1 hc
  exact (((runsL_good ps).one x hx).2.1 r hr).rn
structure Stand (w W : World) (b : Nat) (A : Option Addr) (c : Nat) (cs cs' : List (Int × Int)) : Prop where
  bel : Below w.heap.size w W
  bars : BarsAt W
  row : Row (fun k => k = b) W A c cs
  rope : RopeHas W b cs'
  lb : w.heap.size ≤ b
  nz : b ≠ 0
section
variable {w W W' : World} {b : Nat} {A : Option Addr} {c : Nat} {cs cs' cs'' : List (Int × Int)}
theorem below_grown {n : Nat} (h : Below n w W) (hg : W.grownBy W' (some b)) (hb : n ≤ b) (hn : n ≤ W.heap.size) : Below n w W' :=
  ⟨hg.os.trans h.os, hg.tape.trans h.tape, hg.output.trans h.output, Nat.le_trans h.size hg.size, fun k hk => (hg.block k (Nat.lt_of_lt_of_le hk hn) (fun e => by injection e with e; omega)).trans (h.block k hk)⟩
theorem Stand.step (h : Stand w W b A c cs cs') (hb : Below W.heap.size W W') : Stand w W' b A c cs cs' :=
  ⟨h.bel.trans (hb.mono h.bel.size), h.bars.below hb, h.row.below hb, h.rope.below hb, h.lb, h.nz⟩
theorem Stand.put (h : Stand w W b A c cs cs') (hg : W.grownBy W' (some b)) (hr : RopeHas W' b cs'') : Stand w W' b A c cs cs'' :=
  ⟨below_grown h.bel hg h.lb h.bel.size, h.bars.grown hg h.nz, h.row.grown hg rfl, hr, h.lb, h.nz⟩
end
end Go.Proofs.YteeigokkafcaaaaDoorRope
end
section
namespace Go.Proofs.YteeigokkafcaaaaDoorRope
open Go.RowKit Go.Proofs.YteeigokkafcaaaaDoorW.PrintWords Go.Proofs.YteeigokkafcaaaaDoorW.PrintMore Go.Proofs.YteeigokkafcaaaaDoor.Pr
set_option linter.unusedSimpArgs false
set_option linter.unusedVariables false
theorem sCells_append (a b : List (Int × Int)) : sCells (a ++ b) = sCells a ++ sCells b := by simp [sCells]
theorem sCells_take (a : List (Int × Int)) (n : Nat) : sCells (a.take n) = (sCells a).take n := by simp [sCells]
theorem sCells_drop (a : List (Int × Int)) (n : Nat) : sCells (a.drop n) = (sCells a).drop n := by simp [sCells]
set_option maxRecDepth 100000 in
set_option maxHeartbeats 16000000 in
theorem put_calls {cs : List (Int × Int)} {at_ : Nat} {rs : List Int} {hd : Int} (hat : at_ ≤ cs.length) (hb : cs.length + rs.length ≤ 1048576) (hls : Lets rs) {w : World} {A : Option Addr} {c : Nat} (hA : Kd.C k36 w A cs.length (sCells cs)) (hc : cs.length ≤ c) :
    Calls Tryd.prog 52 #[.slice A cs.length c, .int .i64 (at_ : Int), .string (txt rs), .int .i64 hd] w fun e w' => ∃ A' c', e = .returned (.slice A' (insC cs at_ rs hd).length c') ∧ Kd.R k36 36 w' w.heap.size (fun b => w.heap.size ≤ b) (.slice A' (insC cs at_ rs hd).length c') (sCells (insC cs at_ rs hd)) ∧ Below w.heap.size w w' := by
  have hA' : Kd.C k36 w A (sCells cs).length (sCells cs) := by rw [sCells_len]; exact hA
  have ht := Kd.C_take hA' (m := at_) (by rw [sCells_len]; exact hat)
  have hdr := Kd.C_drop hA' (m := at_) (c := c) (by rw [sCells_len]; exact hat) (by rw [sCells_len]; exact hc)
  rw [← sCells_take, sCells_len, List.length_take, Nat.min_eq_left hat] at ht
  rw [← sCells_drop, sCells_len, List.length_drop, show k36.sz = 2 from rfl] at hdr
  have b1 : (at_ : Int) ≤ (c : Int) := by omega
  have b2 : (at_ : Int) ≤ (cs.length : Int) := by omega
  have HB := Lib.hid hb
  have HAT := Lib.hid hat
  have HC := Lib.hid hc
  have hcc : (cs.length : Int) ≤ (c : Int) := by omega
  obtain ⟨N, hN⟩ : ∃ N, N = cs.length := ⟨_, rfl⟩
  rw [← hN] at hdr b2 hcc ⊢
  have HNN := Lib.hid hN
  clear hA hA' hb hat hc hN
  go_enter Tryd.func52, Tryd.ntmps52
  have HL0 : Hid ((([] : List S36).length + at_) * 16 ≤ 140737488355328) := Lib.hid (by have := HB.out; have := HAT.out; simp only [List.length_nil]; omega)
  go_wp2_with ((with_reducible refine gate_builtin (b := .append) (xs := #[.tmp 12, .tmp 15]) rfl ?_); at_builtin; refine Kd.R_append_rows k36 (w0 := w) w.heap.size rfl (.tmp 12) (.tmp 15) 25 36 (.agg #[.int .i32 0, .int .i64 0]) 16 rfl Tryd.underlying25 info36 rfl (by decide) (by decide) _ ([] : List S36) (sCells (cs.take at_)) _ _ _ (fun b => w.heap.size ≤ b) (fun _ => False) rfl rfl (Kd.R_nil _ _ _ _ _) ht (fun _ _ h => h) (fun _ h => h.elim) (fun _ h => h) (Below.refl _ _) (Nat.le_refl _) HL0.out ?_; intro v1 w1 hR1 hB1 hg1 hat1)
  rw [List.nil_append] at hR1
  clear hg1 hat1
  obtain ⟨wo, hwo⟩ : ∃ wo : World, wo = w1 := ⟨_, rfl⟩
  subst hwo
  have hk0 := iter_start wo rs
  have hB0 : Below w.heap.size w (wo.iter (txt rs) 0) := hB1.alloc hB1.size _
  have hR0 : Kd.R k36 36 (wo.iter (txt rs) 0) w.heap.size (fun b => w.heap.size ≤ b ∧ b ≠ wo.heap.size) _ (sCells (cs.take at_)) := Kd.R_mono (Kd.R_below (Kd.R_bound hR1) ((Below.refl _ wo).alloc (Nat.le_refl _) _)) (fun b hb => ⟨hb.1, by have := hb.2.2.1; omega⟩)
  obtain ⟨pre, hpre⟩ : ∃ pre, pre = cs.take at_ := ⟨_, rfl⟩
  rw [← hpre] at hR0
  have hpl0 : pre.length = at_ := by rw [hpre, List.length_take]; have := HAT.out; omega
  have HPRE := Lib.hid hpre
  have HPL := Lib.hid hpl0
  have hwz := hB1.size
  clear hpre hR1 hB1 hpl0 ht
  go_loopw [9] (fun v9 wx => ∃ j : Nat, j ≤ rs.length ∧ IterAt wx wo.heap.size rs j ∧ Kd.R k36 36 wx w.heap.size (fun b => w.heap.size ≤ b ∧ b ≠ wo.heap.size) v9 (sCells (pieceTo pre rs hd j)) ∧ Below w.heap.size w wx) (fun _ wx => leftOf wx wo.heap.size rs)
  case atStart => exact ⟨0, Nat.zero_le _, hk0, by rw [pieceTo_zero]; exact hR0, hB0⟩
  case round =>
    obtain ⟨j, hjl, hk, hRj, hBj⟩ := hrel
    clear hk0 hB0 hR0
    by_cases hlj : j < rs.length
    · obtain ⟨W1, p, r, hnext, ⟨hx, hr⟩, hp, hi1, ho1, hs1, hbl1⟩ := next_txt (P := Tryd.prog) hls.rns hk hlj
      have hR1 : Kd.R k36 36 W1 w.heap.size (fun b => w.heap.size ≤ b ∧ b ≠ wo.heap.size) _ (sCells (pieceTo pre rs hd j)) := Kd.R_step hRj (fun b hb _ => ho1 b hb.2)
      have hB1 := hbl1 hBj hwz
      have hz1 : wo.heap.size < W1.heap.size := IterAt.below.new_lt' hi1
      have hps := pieceTo_succ (pre := pre) (h := hd) hlj hr
      have hpl := pieceTo_len pre rs hd j
      have HK := Lib.hid hk
      have HI := Lib.hid hi1
      have HPS := Lib.hid hps
      have HL : Hid (((sCells (pieceTo pre rs hd j)).length + 1) * 16 ≤ 140737488355328) := Lib.hid (by rw [sCells_len]; have := HB.out; have := HPL.out; have := HAT.out; omega)
      clear hk hp ho1 hRj hBj hi1 hr hs1 hbl1 hps hpl
      go_wp2_with ((with_reducible refine gate_builtin (b := .append) (xs := #[.tmp 22, .tmp 26]) rfl ?_); at_builtin; refine Kd.R_append k36 (w0 := w) w.heap.size rfl (.tmp 22) (.tmp 26) 25 36 (.agg #[.int .i32 0, .int .i64 0]) 16 rfl Tryd.underlying25 info36 rfl (by decide) (by decide) _ (sCells (pieceTo pre rs hd j)) ⟨r, hd⟩ [.int .i32 r, .int .i64 hd] (fun b => w.heap.size ≤ b ∧ b ≠ wo.heap.size) (fun _ => False) rfl rfl ?aP (fun _ h => h.elim) ?aF hR1 hB1 hB1.size HL.out ?_; (case aP => exact k36_mkM _ _ _ ⟨_, _⟩); (case aF => exact fun b hb => ⟨Nat.le_trans hB1.size hb, by omega⟩); intro v1 w1 hR2 hB2 hg2 hat2)
      have hI2 : IterAt w1 wo.heap.size rs (j + 1) := HI.out.grown hg2 (fun e => (hR1.1 _ e.symm).2 rfl)
      have hR3 : Kd.R k36 36 w1 w.heap.size (fun b => w.heap.size ≤ b ∧ b ≠ wo.heap.size) v1 (sCells (pieceTo pre rs hd (j + 1))) := by rw [HPS.out, sCells_snoc]; exact hR2
      have hm := left_less HK.out hI2 hlj
      clear hR1 hR2 hB1 hz1
      go_wp2
      go_roundw
      case rel => exact ⟨j + 1, hlj, hI2, hR3, hB2⟩
      case measure => exact hm
    · have hnext := fun ty => next_txt_end (P := Tryd.prog) hk (by omega) ty
      have hj2 : j = rs.length := by omega
      subst hj2
      have hpa : pieceTo pre rs hd rs.length = pre ++ rs.map (fun c => (c, hd)) := by simp [pieceTo]
      rw [hpa] at hRj
      have HL2 : Hid (((sCells (pre ++ rs.map (fun c => (c, hd)))).length + (N - at_)) * 16 ≤ 140737488355328) := Lib.hid (by rw [sCells_len, List.length_append, List.length_map]; have := HB.out; have := HPL.out; have := HAT.out; have := HNN.out; omega)
      clear hlj hjl hpa
      have hzz : wo.heap.size < wr.heap.size := IterAt.below.new_lt' hk
      by_cases hca : c = at_
      · rw [if_pos hca] at hdr
        have hz0 : N - at_ = 0 := by have := HC.out; have := HNN.out; omega
        rw [hz0] at hdr HL2
        obtain rfl : at_ = c := hca.symm
        go_wp2_with ((with_reducible refine gate_builtin (b := .append) (xs := #[.tmp 28, .tmp 31]) rfl ?_); at_builtin; refine Kd.R_append_rows k36 (w0 := w) w.heap.size rfl (.tmp 28) (.tmp 31) 25 36 (.agg #[.int .i32 0, .int .i64 0]) 16 rfl Tryd.underlying25 info36 rfl (by decide) (by decide) _ (sCells (pre ++ rs.map (fun c => (c, hd)))) (sCells (cs.drop at_)) _ _ _ (fun b => w.heap.size ≤ b ∧ b ≠ wo.heap.size) (fun _ => False) rfl rfl hRj (Kd.C_below hdr hBj) (fun _ _ h => h) (fun _ h => h.elim) ?aF hBj hBj.size HL2.out ?_; (case aF => exact fun b hb => ⟨Nat.le_trans hBj.size hb, by omega⟩); intro v1 w1 hR2 hB2 hg2 hat2)
        clear hg2 hat2
        have he : sCells (pre ++ rs.map (fun c => (c, hd))) ++ sCells (cs.drop at_) = sCells (insC cs at_ rs hd) := by rw [← sCells_append, HPRE.out]; rfl
        rw [he] at hR2
        obtain ⟨A', c', hv⟩ := Kd.R_slice hR2
        rw [sCells_len] at hv
        subst hv
        clear he
        go_wp2
        go_ret
        exact ⟨A', c', rfl, Kd.R_mono hR2 (fun b hb => hb.1), hB2⟩
      · rw [if_neg hca] at hdr
        have hca1 : (c = at_) = False := eq_false hca
        have hca2 : (c == at_) = false := beq_eq_false_iff_ne.mpr hca
        go_wp2_with ((with_reducible refine gate_builtin (b := .append) (xs := #[.tmp 28, .tmp 31]) rfl ?_); at_builtin; refine Kd.R_append_rows k36 (w0 := w) w.heap.size rfl (.tmp 28) (.tmp 31) 25 36 (.agg #[.int .i32 0, .int .i64 0]) 16 rfl Tryd.underlying25 info36 rfl (by decide) (by decide) _ (sCells (pre ++ rs.map (fun c => (c, hd)))) (sCells (cs.drop at_)) _ _ _ (fun b => w.heap.size ≤ b ∧ b ≠ wo.heap.size) (fun _ => False) rfl rfl hRj (Kd.C_below hdr hBj) (fun _ _ h => h) (fun _ h => h.elim) ?aF hBj hBj.size HL2.out ?_; (case aF => exact fun b hb => ⟨Nat.le_trans hBj.size hb, by omega⟩); intro v1 w1 hR2 hB2 hg2 hat2)
        clear hg2 hat2
        have he : sCells (pre ++ rs.map (fun c => (c, hd))) ++ sCells (cs.drop at_) = sCells (insC cs at_ rs hd) := by rw [← sCells_append, HPRE.out]; rfl
        rw [he] at hR2
        obtain ⟨A', c', hv⟩ := Kd.R_slice hR2
        rw [sCells_len] at hv
        subst hv
        clear he
        go_wp2
        go_ret
        exact ⟨A', c', rfl, Kd.R_mono hR2 (fun b hb => hb.1), hB2⟩
end Go.Proofs.YteeigokkafcaaaaDoorRope
end
section
namespace Go.Proofs.YteeigokkafcaaaaDoorRope
open Go.RowKit Go.Proofs.YteeigokkafcaaaaDoorW.PrintWords Go.Proofs.YteeigokkafcaaaaDoorW.PrintMore Go.Proofs.YteeigokkafcaaaaDoor.Pr
set_option linter.unusedSimpArgs false
set_option linter.unusedVariables false
structure RowOk (H : Int) (cs : List (Int × Int)) : Prop where
  rn : ∀ c ∈ cs, Rn c.1
  h : ∀ c ∈ cs, 0 ≤ c.2 ∧ c.2 ≤ H
theorem RopeHas.lt {W : World} {b : Nat} {cs : List (Int × Int)} (h : RopeHas W b cs) : b < W.heap.size := by
  obtain ⟨K, t, h, _⟩ := h
  obtain ⟨v, hv, _⟩ := h.h
  exact new_lt hv
theorem Stand.row' {w W W' : World} {b : Nat} {A A' : Option Addr} {c c' : Nat} {cs cs' cs'' : List (Int × Int)} (h : Stand w W b A c cs cs') (hb : Below W.heap.size W W') {ok : Nat → Prop} (hr : Kd.R k36 36 W' W.heap.size ok (.slice A' cs''.length c') (sCells cs'')) : Stand w W' b A' c' cs'' cs' := by
  have h' := h.step hb
  refine ⟨h'.bel, h'.bars, ⟨W.heap.size, Kd.R_mono (Kd.R_bound hr) (fun k hk e => ?_)⟩, h'.rope, h'.lb, h'.nz⟩
  have := h.rope.lt
  have := hk.2.1
  omega
theorem RowOk.ins {H : Int} {cs : List (Int × Int)} (h : RowOk H cs) {at_ : Nat} {l : List Int} {hd : Int} (hl : ∀ r ∈ l, Rn r) (hh : 0 ≤ hd ∧ hd ≤ H) : RowOk (H + 1) (insC cs at_ l hd) := by
  refine ⟨ins_rn h.rn hl, fun c hm => ?_⟩
  rw [insC, List.mem_append, List.mem_append] at hm
  rcases hm with (hm | hm) | hm
  · have := h.h _ (List.mem_of_mem_take hm); omega
  · obtain ⟨r, hr, rfl⟩ := List.mem_map.1 hm; exact ⟨hh.1, by dsimp only; omega⟩
  · have := h.h _ (List.mem_of_mem_drop hm); omega
theorem bump1_mem {cs : List (Int × Int)} {r : Nat × Nat} {b : Int} {c : Int × Int} (h : c ∈ bump1 cs r b) : c ∈ cs ∨ ∃ d ∈ (cs.take r.2).drop r.1, c = (d.1, d.2 + b) := by
  rw [bump1, List.mem_append, List.mem_append] at h
  rcases h with (h | h) | h
  · exact .inl (List.mem_of_mem_take h)
  · obtain ⟨d, hd, rfl⟩ := List.mem_map.1 h
    exact .inr ⟨d, hd, rfl⟩
  · exact .inl (List.mem_of_mem_drop h)
theorem bumpC_mem {cs : List (Int × Int)} {l : List (Nat × Nat)} {b : Int} (hN : Norm l cs.length) : ∀ i, i ≤ l.length → ∀ c ∈ bumpC cs (l.take i) b, c ∈ cs ∨ ∃ r ∈ l, ∃ d ∈ (cs.take r.2).drop r.1, c = (d.1, d.2 + b) := by
  intro i
  induction i with
  | zero => intro _ c hc; exact .inl hc
  | succ i ih =>
    intro hi c hc
    have hil : i < l.length := by omega
    rw [bumpC_take hil] at hc
    rcases bump1_mem hc with h | ⟨d, hd, rfl⟩
    · exact ih (by omega) c h
    · rw [bumpC_mid hN hil] at hd
      exact .inr ⟨l[i], List.getElem_mem hil, d, hd, rfl⟩
theorem RowOk.bump {H : Int} {cs : List (Int × Int)} (h : RowOk H cs) {l : List (Nat × Nat)} {b : Int} (hN : Norm l cs.length) (hok : BumpOk cs l b) (hb : b ≤ 1) : RowOk (H + 1) (bumpC cs l b) := by
  have hm := bumpC_mem (b := b) hN l.length (Nat.le_refl _)
  rw [List.take_length] at hm
  refine ⟨fun c hc => ?_, fun c hc => ?_⟩
  · rcases hm c hc with h1 | ⟨r, hr, d, hd, rfl⟩
    · exact h.rn _ h1
    · exact h.rn d (List.mem_of_mem_take (List.mem_of_mem_drop hd))
  · rcases hm c hc with h1 | ⟨r, hr, d, hd, rfl⟩
    · have := h.h _ h1; omega
    · have := h.h _ (List.mem_of_mem_take (List.mem_of_mem_drop hd))
      have := hok r hr d hd
      dsimp only
      omega
end Go.Proofs.YteeigokkafcaaaaDoorRope
end
section
namespace Go.Proofs.YteeigokkafcaaaaDoor.SpanMath
open Go.Proofs.YteeigokkafcaaaaDoor.Pr
def mem (l : List S133) (q : Int) : Prop := ∃ r ∈ l, r.f0 ≤ q ∧ q < r.f1
theorem mem_nil (q : Int) : mem [] q ↔ False := by simp [mem]
theorem mem_cons (r : S133) (l : List S133) (q : Int) : mem (r :: l) q ↔ (r.f0 ≤ q ∧ q < r.f1) ∨ mem l q := by simp [mem]
theorem mem_append (a b : List S133) (q : Int) : mem (a ++ b) q ↔ mem a q ∨ mem b q := by
  induction a with
  | nil => simp [mem]
  | cons r a ih => rw [List.cons_append, mem_cons, mem_cons, ih, or_assoc]
def Nrm (l : List S133) : Prop := l.Pairwise (fun r s => r.f1 < s.f0) ∧ ∀ r ∈ l, r.f0 < r.f1
theorem nrm_nil : Nrm [] := ⟨List.Pairwise.nil, by simp⟩
theorem nrm_cons {r : S133} {l : List S133} : Nrm (r :: l) ↔ r.f0 < r.f1 ∧ (∀ s ∈ l, r.f1 < s.f0) ∧ Nrm l := by
  unfold Nrm
  rw [List.pairwise_cons]
  constructor
  · rintro ⟨⟨h1, h2⟩, h3⟩
    exact ⟨h3 r List.mem_cons_self, h1, h2, fun s hs => h3 s (List.mem_cons_of_mem _ hs)⟩
  · rintro ⟨h1, h2, h3, h4⟩
    refine ⟨⟨h2, h3⟩, fun s hs => ?_⟩
    rcases List.mem_cons.1 hs with rfl | hs
    · exact h1
    · exact h4 s hs
theorem nrm_append {a b : List S133} : Nrm (a ++ b) ↔ Nrm a ∧ Nrm b ∧ ∀ r ∈ a, ∀ s ∈ b, r.f1 < s.f0 := by
  unfold Nrm
  rw [List.pairwise_append]
  constructor
  · rintro ⟨⟨h1, h2, h3⟩, h4⟩
    exact ⟨⟨h1, fun r hr => h4 r (List.mem_append_left _ hr)⟩, ⟨h2, fun r hr => h4 r (List.mem_append_right _ hr)⟩, h3⟩
  · rintro ⟨⟨h1, h2⟩, ⟨h3, h4⟩, h5⟩
    refine ⟨⟨h1, h3, h5⟩, fun r hr => ?_⟩
    rcases List.mem_append.1 hr with hr | hr
    · exact h2 r hr
    · exact h4 r hr
theorem mem_tail_gt {r : S133} {l : List S133} (h : Nrm (r :: l)) {q : Int} (hq : mem l q) : r.f1 < q := by
  obtain ⟨s, hs, h1, _⟩ := hq
  have := (nrm_cons.1 h).2.1 s hs
  omega
theorem mem_ge {r : S133} {l : List S133} (h : Nrm (r :: l)) {q : Int} (hq : mem (r :: l) q) : r.f0 ≤ q := by
  rcases (mem_cons r l q).1 hq with h1 | h1
  · exact h1.1
  · have := mem_tail_gt h h1
    have := (nrm_cons.1 h).1
    omega
theorem s_ext {r s : S133} (h0 : r.f0 = s.f0) (h1 : r.f1 = s.f1) : r = s := by
  cases r; cases s; simp_all
theorem nrm_ext : ∀ {a b : List S133}, Nrm a → Nrm b → (∀ q, mem a q ↔ mem b q) → a = b
  | [], [], _, _, _ => rfl
  | [], s :: b, _, hb, h => by
    have := (h s.f0).2 ((mem_cons _ _ _).2 (.inl ⟨by omega, (nrm_cons.1 hb).1⟩))
    simp [mem] at this
  | r :: a, [], ha, _, h => by
    have := (h r.f0).1 ((mem_cons _ _ _).2 (.inl ⟨by omega, (nrm_cons.1 ha).1⟩))
    simp [mem] at this
  | r :: a, s :: b, ha, hb, h => by
    have ra := (nrm_cons.1 ha).1
    have sb := (nrm_cons.1 hb).1
    have e0 : r.f0 = s.f0 := by
      have h1 := mem_ge hb ((h r.f0).1 ((mem_cons _ _ _).2 (.inl ⟨by omega, ra⟩)))
      have h2 := mem_ge ha ((h s.f0).2 ((mem_cons _ _ _).2 (.inl ⟨by omega, sb⟩)))
      omega
    have e1 : r.f1 = s.f1 := by
      by_cases c : r.f1 < s.f1
      · have h1 := (h r.f1).2 ((mem_cons _ _ _).2 (.inl ⟨by omega, c⟩))
        rcases (mem_cons _ _ _).1 h1 with h2 | h2
        · omega
        · have := mem_tail_gt ha h2
          omega
      · by_cases c' : s.f1 < r.f1
        · have h1 := (h s.f1).1 ((mem_cons _ _ _).2 (.inl ⟨by omega, c'⟩))
          rcases (mem_cons _ _ _).1 h1 with h2 | h2
          · omega
          · have := mem_tail_gt hb h2
            omega
        · omega
    have er : r = s := s_ext e0 e1
    subst er
    have et : a = b := nrm_ext (nrm_cons.1 ha).2.2 (nrm_cons.1 hb).2.2 (fun q => by
      constructor
      · intro hq
        have g := mem_tail_gt ha hq
        rcases (mem_cons _ _ _).1 ((h q).1 ((mem_cons _ _ _).2 (.inr hq))) with h2 | h2
        · omega
        · exact h2
      · intro hq
        have g := mem_tail_gt hb hq
        rcases (mem_cons _ _ _).1 ((h q).2 ((mem_cons _ _ _).2 (.inr hq))) with h2 | h2
        · omega
        · exact h2)
    rw [et]
def addS (l : List S133) (lo hi : Int) : List S133 :=
  if lo ≥ hi then l else
  match l.getLast? with
  | none => [⟨lo, hi⟩]
  | some r => if r.f1 ≥ lo then l.dropLast ++ [⟨r.f0, if r.f1 < hi then hi else r.f1⟩] else l ++ [⟨lo, hi⟩]
theorem addS_empty {l : List S133} {lo hi : Int} (h : hi ≤ lo) : addS l lo hi = l := by unfold addS; rw [if_pos h]
theorem addS_nil {lo hi : Int} (h : lo < hi) : addS [] lo hi = [⟨lo, hi⟩] := by unfold addS; rw [if_neg (by omega)]; rfl
theorem addS_join {l : List S133} {r : S133} {lo hi : Int} (h : lo < hi) (hr : lo ≤ r.f1) : addS (l ++ [r]) lo hi = l ++ [⟨r.f0, if r.f1 < hi then hi else r.f1⟩] := by
  unfold addS; rw [if_neg (by omega)]; simp [hr]
theorem addS_more {l : List S133} {r : S133} {lo hi : Int} (h : lo < hi) (hr : r.f1 < lo) : addS (l ++ [r]) lo hi = l ++ [r] ++ [⟨lo, hi⟩] := by
  unfold addS; rw [if_neg (by omega)]; simp; omega
theorem concat_cases (l : List S133) : l = [] ∨ ∃ i r, l = i ++ [r] := by
  rcases List.eq_nil_or_concat l with h | ⟨i, r, h⟩
  · exact .inl h
  · exact .inr ⟨i, r, by simpa using h⟩
theorem addS_mem {l : List S133} {lo hi : Int} (h : lo < hi → ∀ r ∈ l, r.f0 ≤ lo) (q : Int) : mem (addS l lo hi) q ↔ mem l q ∨ (lo ≤ q ∧ q < hi) := by
  by_cases c : lo < hi
  · have h' := h c
    rcases concat_cases l with rfl | ⟨i, r, rfl⟩
    · rw [addS_nil c]; simp [mem]
    · have hr := h' r (by simp)
      by_cases c2 : lo ≤ r.f1
      · rw [addS_join c c2, mem_append, mem_append, mem_cons, mem_cons, mem_nil]
        have : (r.f0 ≤ q ∧ q < (if r.f1 < hi then hi else r.f1)) ↔ ((r.f0 ≤ q ∧ q < r.f1) ∨ (lo ≤ q ∧ q < hi)) := by
          split <;> constructor <;> intro h1 <;> omega
        show mem i q ∨ (r.f0 ≤ q ∧ q < (if r.f1 < hi then hi else r.f1)) ∨ False ↔ _
        rw [this]
        constructor
        · rintro (h1 | (h1 | h1) | h1)
          · exact .inl (.inl h1)
          · exact .inl (.inr (.inl h1))
          · exact .inr h1
          · exact h1.elim
        · rintro ((h1 | h1 | h1) | h1)
          · exact .inl h1
          · exact .inr (.inl (.inl h1))
          · exact h1.elim
          · exact .inr (.inl (.inr h1))
      · rw [addS_more c (by omega), mem_append, mem_cons, mem_nil, or_false]
  · rw [addS_empty (by omega)]
    constructor
    · exact .inl
    · rintro (h1 | h1)
      · exact h1
      · omega
theorem addS_nrm {l : List S133} {lo hi : Int} (hn : Nrm l) (h : lo < hi → ∀ r ∈ l, r.f0 ≤ lo) : Nrm (addS l lo hi) := by
  by_cases c : lo < hi
  · have h' := h c
    rcases concat_cases l with rfl | ⟨i, r, rfl⟩
    · rw [addS_nil c]
      exact nrm_cons.2 ⟨c, by simp, nrm_nil⟩
    · have hr := h' r (by simp)
      obtain ⟨h1, h2, h3⟩ := nrm_append.1 hn
      have hrr := (nrm_cons.1 h2).1
      by_cases c2 : lo ≤ r.f1
      · rw [addS_join c c2]
        refine nrm_append.2 ⟨h1, nrm_cons.2 ⟨?_, by simp, nrm_nil⟩, fun x hx s hs => ?_⟩
        · show r.f0 < (if r.f1 < hi then hi else r.f1)
          split <;> omega
        · simp at hs
          subst hs
          exact h3 x hx r (by simp)
      · rw [addS_more c (by omega)]
        refine nrm_append.2 ⟨hn, nrm_cons.2 ⟨c, by simp, nrm_nil⟩, fun x hx s hs => ?_⟩
        simp at hs
        subst hs
        show x.f1 < lo
        rcases List.mem_append.1 hx with hx | hx
        · have := h3 x hx r (by simp)
          omega
        · simp at hx
          subst hx
          omega
  · rw [addS_empty (by omega)]
    exact hn
theorem addS_lo {l : List S133} {lo hi b : Int} (h : ∀ r ∈ l, r.f0 ≤ b) (hb : lo < hi → lo ≤ b) : ∀ r ∈ addS l lo hi, r.f0 ≤ b := by
  by_cases c : lo < hi
  · rcases concat_cases l with rfl | ⟨i, r, rfl⟩
    · rw [addS_nil c]
      intro r hr
      simp at hr
      subst hr
      exact hb c
    · by_cases c2 : lo ≤ r.f1
      · rw [addS_join c c2]
        intro x hx
        rcases List.mem_append.1 hx with hx | hx
        · exact h x (List.mem_append_left _ hx)
        · simp at hx
          subst hx
          exact h r (by simp)
      · rw [addS_more c (by omega)]
        intro x hx
        rcases List.mem_append.1 hx with hx | hx
        · exact h x hx
        · simp at hx
          subst hx
          exact hb c
  · rw [addS_empty (by omega)]
    exact h
theorem addS_len (l : List S133) (lo hi : Int) : (addS l lo hi).length ≤ l.length + 1 := by
  by_cases c : lo < hi
  · rcases concat_cases l with rfl | ⟨i, r, rfl⟩
    · rw [addS_nil c]; simp
    · by_cases c2 : lo ≤ r.f1
      · rw [addS_join c c2]; simp
      · rw [addS_more c (by omega)]; simp
  · rw [addS_empty (by omega)]; omega
def adds (l : List S133) (ps : List S133) : List S133 := ps.foldl (fun l p => addS l p.f0 p.f1) l
theorem adds_nil (l : List S133) : adds l [] = l := rfl
theorem adds_cons (l : List S133) (p : S133) (ps : List S133) : adds l (p :: ps) = adds (addS l p.f0 p.f1) ps := rfl
theorem adds_len : ∀ (ps l : List S133), (adds l ps).length ≤ l.length + ps.length
  | [], l => by simp [adds]
  | p :: ps, l => by
    rw [adds_cons]
    have := adds_len ps (addS l p.f0 p.f1)
    have := addS_len l p.f0 p.f1
    simp only [List.length_cons]
    omega
def Up (ps : List S133) : Prop := ps.Pairwise (fun p q => p.f0 < p.f1 → q.f0 < q.f1 → p.f0 ≤ q.f0)
theorem adds_spec : ∀ (ps l : List S133), Nrm l → Up ps → (∀ p ∈ ps, p.f0 < p.f1 → ∀ r ∈ l, r.f0 ≤ p.f0) → Nrm (adds l ps) ∧ ∀ q, mem (adds l ps) q ↔ mem l q ∨ mem ps q
  | [], l, hn, _, _ => ⟨hn, fun q => by rw [adds_nil, mem_nil, or_false]⟩
  | p :: ps, l, hn, hu, hl => by
    have hu' := List.pairwise_cons.1 hu
    have h0 : p.f0 < p.f1 → ∀ r ∈ l, r.f0 ≤ p.f0 := hl p List.mem_cons_self
    obtain ⟨h1, h2⟩ := adds_spec ps (addS l p.f0 p.f1) (addS_nrm hn h0) hu'.2 (fun q hq hqe r hr => by
      refine addS_lo (b := q.f0) (hl q (List.mem_cons_of_mem _ hq) hqe) (fun c => hu'.1 q hq c hqe) r hr)
    refine ⟨h1, fun q => ?_⟩
    rw [adds_cons, h2, addS_mem h0, mem_cons, or_assoc]
theorem mem_iff {l l' : List S133} (h : ∀ x, x ∈ l ↔ x ∈ l') (q : Int) : mem l q ↔ mem l' q := by
  constructor
  · rintro ⟨r, hr, hq⟩
    exact ⟨r, (h r).1 hr, hq⟩
  · rintro ⟨r, hr, hq⟩
    exact ⟨r, (h r).2 hr, hq⟩
def Ris (l : List S133) : Prop := l.Pairwise (fun p q => p.f0 ≤ q.f0)
theorem Ris.up {l : List S133} (h : Ris l) : Up l := List.Pairwise.imp (fun h _ _ => h) h
end Go.Proofs.YteeigokkafcaaaaDoor.SpanMath
end
section
namespace Go.Proofs.YteeigokkafcaaaaDoor.SpanMath
open Go.Proofs.YteeigokkafcaaaaDoor.Pr
def mxI (a b : Int) : Int := if a < b then b else a
def mnI (a b : Int) : Int := if b < a then b else a
def throughP (c n : Int) (a : List S133) : List S133 := a.flatMap (fun r => [⟨r.f0, mnI r.f1 c⟩, ⟨mxI r.f0 c + n, r.f1 + n⟩])
theorem throughP_cons (c n : Int) (r : S133) (a : List S133) : throughP c n (r :: a) = ⟨r.f0, mnI r.f1 c⟩ :: ⟨mxI r.f0 c + n, r.f1 + n⟩ :: throughP c n a := by simp [throughP]
theorem throughP_spec (c n : Int) (hn : 0 ≤ n) : ∀ (a : List S133), Nrm a →
    (∀ q, mem (throughP c n a) q ↔ (q < c ∧ mem a q) ∨ (c + n ≤ q ∧ mem a (q - n))) ∧ Up (throughP c n a) ∧
    (∀ p ∈ throughP c n a, p.f0 < p.f1 → ∃ r ∈ a, (p.f1 ≤ c ∧ r.f0 ≤ p.f0 ∧ p.f1 ≤ r.f1) ∨ (c < r.f1 ∧ r.f0 + n ≤ p.f0 ∧ c + n ≤ p.f0 ∧ p.f1 = r.f1 + n))
  | [], _ => ⟨fun q => by simp [throughP, mem], List.Pairwise.nil, fun p hp => by simp [throughP] at hp⟩
  | r :: a, ha => by
    obtain ⟨r1, r2, r3⟩ := nrm_cons.1 ha
    obtain ⟨i1, i2, i3⟩ := throughP_spec c n hn a r3
    rw [throughP_cons]
    have k1 : ∀ p ∈ throughP c n a, p.f0 < p.f1 → r.f1 < p.f0 := by
      intro p hp hpe
      obtain ⟨s, hs, h⟩ := i3 p hp hpe
      have := r2 s hs
      omega
    have k2 : ∀ p ∈ throughP c n a, p.f0 < p.f1 → mxI r.f0 c < r.f1 → mxI r.f0 c + n ≤ p.f0 := by
      intro p hp hpe hne
      obtain ⟨s, hs, h⟩ := i3 p hp hpe
      have := r2 s hs
      have := r3.2 s hs
      unfold mxI at hne ⊢
      split at hne <;> split <;> omega
    refine ⟨fun q => ?_, List.pairwise_cons.2 ⟨fun p hp hne hpe => ?_, List.pairwise_cons.2 ⟨fun p hp hne hpe => ?_, i2⟩⟩, fun p hp hpe => ?_⟩
    · rw [mem_cons, mem_cons, i1, mem_cons, mem_cons]
      show ((r.f0 ≤ q ∧ q < mnI r.f1 c) ∨ (mxI r.f0 c + n ≤ q ∧ q < r.f1 + n) ∨ _) ↔ _
      have e1 : (r.f0 ≤ q ∧ q < mnI r.f1 c) ↔ (q < c ∧ r.f0 ≤ q ∧ q < r.f1) := by unfold mnI; split <;> omega
      have e2 : (mxI r.f0 c + n ≤ q ∧ q < r.f1 + n) ↔ (c + n ≤ q ∧ r.f0 ≤ q - n ∧ q - n < r.f1) := by unfold mxI; split <;> omega
      rw [e1, e2]
      constructor
      · rintro (h | h | h | h)
        · exact .inl ⟨h.1, .inl h.2⟩
        · exact .inr ⟨h.1, .inl h.2⟩
        · exact .inl ⟨h.1, .inr h.2⟩
        · exact .inr ⟨h.1, .inr h.2⟩
      · rintro (⟨h, h1 | h1⟩ | ⟨h, h1 | h1⟩)
        · exact .inl ⟨h, h1⟩
        · exact .inr (.inr (.inl ⟨h, h1⟩))
        · exact .inr (.inl ⟨h, h1⟩)
        · exact .inr (.inr (.inr ⟨h, h1⟩))
    · show r.f0 ≤ p.f0
      rcases List.mem_cons.1 hp with rfl | hp
      · show r.f0 ≤ mxI r.f0 c + n
        unfold mxI; split <;> omega
      · have := k1 p hp hpe
        omega
    · exact k2 p hp hpe (by have h : mxI r.f0 c + n < r.f1 + n := hne; omega)
    · rcases List.mem_cons.1 hp with rfl | hp
      · refine ⟨r, List.mem_cons_self, .inl ⟨?_, Int.le_refl _, ?_⟩⟩
        · show mnI r.f1 c ≤ c
          unfold mnI; split <;> omega
        · show mnI r.f1 c ≤ r.f1
          unfold mnI; split <;> omega
      · rcases List.mem_cons.1 hp with rfl | hp
        · have h : mxI r.f0 c + n < r.f1 + n := hpe
          refine ⟨r, List.mem_cons_self, .inr ⟨?_, ?_, ?_, rfl⟩⟩
          · unfold mxI at h; split at h <;> omega
          · show r.f0 + n ≤ mxI r.f0 c + n
            unfold mxI; split <;> omega
          · show c + n ≤ mxI r.f0 c + n
            unfold mxI; split <;> omega
        · obtain ⟨s, hs, h⟩ := i3 p hp hpe
          exact ⟨s, List.mem_cons_of_mem _ hs, h⟩
def throughS (c n : Int) (a : List S133) : List S133 := adds [] (throughP c n a)
theorem throughS_spec {c n : Int} (hn : 0 ≤ n) {a : List S133} (ha : Nrm a) : Nrm (throughS c n a) ∧ ∀ q, mem (throughS c n a) q ↔ (q < c ∧ mem a q) ∨ (c + n ≤ q ∧ mem a (q - n)) := by
  obtain ⟨i1, i2, _⟩ := throughP_spec c n hn a ha
  obtain ⟨h1, h2⟩ := adds_spec (throughP c n a) [] nrm_nil i2 (fun _ _ _ r hr => by simp at hr)
  exact ⟨h1, fun q => by rw [throughS, h2, mem_nil, false_or, i1]⟩
def cnt (l : List S133) : Int := (l.map (fun r => r.f1 - r.f0)).sum
theorem cnt_cons (r : S133) (l : List S133) : cnt (r :: l) = (r.f1 - r.f0) + cnt l := by simp [cnt]
end Go.Proofs.YteeigokkafcaaaaDoor.SpanMath
end
section
namespace Go.Proofs.YteeigokkafcaaaaDoor.Pr
open Go.RowKit Go.Proofs.YteeigokkafcaaaaDoorW.PrintWords Go.Proofs.YteeigokkafcaaaaDoorW.PrintLast Go.Proofs.YteeigokkafcaaaaDoorW.PrintMore
attribute [local go_sem] max2_int min2_int max_two min_two max_three min_three max_four min_four
set_option linter.unusedVariables false
set_option linter.unusedSimpArgs false
def span_add.f (l0 : List (S133)) (a1 : Int) (a2 : Int) : Option ((List (S133))) := if a1 ≥ a2 then (some l0) else (if (l0.length : Int) > 0 then (if 0 ≤ (wrap64 ((l0.length : Int) - 1)) then (if (wrap64 ((l0.length : Int) - 1)) < (l0.length : Int) then (if ((rd_T133 l0 (wrap64 ((l0.length : Int) - 1))).f1) ≥ a1 then (some (l0.set ((wrap64 ((l0.length : Int) - 1)) : Int).toNat (⟨(rd_T133 l0 (wrap64 ((l0.length : Int) - 1))).f0, mx ((rd_T133 l0 (wrap64 ((l0.length : Int) - 1))).f1) a2⟩ : S133))) else (if l0.length < 8796093022208 then (some (l0 ++ [(⟨a1, a2⟩ : S133)])) else (none))) else (none)) else (none)) else (if l0.length < 8796093022208 then (some (l0 ++ [(⟨a1, a2⟩ : S133)])) else (none)))
set_option maxHeartbeats 8000000 in
set_option maxRecDepth 100000 in
theorem span_add.calls (P0_ : Nat → Prop) (u9000_ : Value) (l0 : List (S133)) (a1 : Int) (a2 : Int) (r : List (S133)) (w0 w : World) (hB : Below w0.heap.size w0 w) (ho0 : Kd.R k133 133 w w0.heap.size P0_ u9000_ l0) (h : span_add.f l0 a1 a2 = some r) :
  Calls Tryd.prog 92 #[u9000_, .int .i64 a1, .int .i64 a2] w fun e w' => ∃ v0_ : Value, e = .returned (v0_) ∧ Kd.R k133 133 w' w0.heap.size (fun k_ => (P0_ k_ ∨ w.heap.size ≤ k_)) v0_ r ∧ Below w0.heap.size w0 w' ∧ Kept w w' (fun k_ => P0_ k_) := by
 have hu133 := Tryd.underlying133
 have HO0 := Aside0.mk (show Kd.R k133 133 w w0.heap.size (fun k_ => (P0_ k_ ∨ w.heap.size ≤ k_)) u9000_ l0 from Kd.R_mono ho0 (fun k_ hk => (.inl hk)))
 have HK := Aside0.mk (Kept.refl w (fun k_ => P0_ k_))
 have HW0 := Aside0.mk hB.size
 have HB := Aside0.mk hB
 clear hB
 have H : (if a1 ≥ a2 then (some l0) else (if (l0.length : Int) > 0 then (if 0 ≤ (wrap64 ((l0.length : Int) - 1)) then (if (wrap64 ((l0.length : Int) - 1)) < (l0.length : Int) then (if ((rd_T133 l0 (wrap64 ((l0.length : Int) - 1))).f1) ≥ a1 then (some (l0.set ((wrap64 ((l0.length : Int) - 1)) : Int).toNat (⟨(rd_T133 l0 (wrap64 ((l0.length : Int) - 1))).f0, mx ((rd_T133 l0 (wrap64 ((l0.length : Int) - 1))).f1) a2⟩ : S133))) else (if l0.length < 8796093022208 then (some (l0 ++ [(⟨a1, a2⟩ : S133)])) else (none))) else (none)) else (none)) else (if l0.length < 8796093022208 then (some (l0 ++ [(⟨a1, a2⟩ : S133)])) else (none)))) = some r := h
 clear h
 by_cases c4 : a1 ≥ a2
 ·rw [if_pos c4] at H
  have c4b0 : decide (a2 ≤ a1) = true := decide_eq_true c4
  clear c4
  obtain rfl := Option.some.inj H
  go_enter Tryd.func92, Tryd.ntmps92
  go_wp2
  go_ret
  exact ⟨_, by first | rfl | (simp [errW_none, errW_some] <;> rfl) | (simp [*, errW_none, errW_some] <;> rfl), by (with_reducible repeat (first | apply Kd.R_alloc | apply Kd.R_drewN | apply Kd.R_drew)); exact HO0.out, by repeat (first | (with_reducible first | exact HB.out | apply below_alloc | apply pw_below_drewN | apply below_drew1) | exact HB.out), by repeat (first | (with_reducible first | exact HK.out | apply Kept.alloc | apply Kept.drewN | apply Kept.drew) | exact HK.out)⟩
 ·rw [if_neg c4] at H
  have c4b0 : decide (a2 ≤ a1) = false := decide_eq_false c4
  clear c4
  by_cases c5 : (l0.length : Int) > 0
  ·rw [if_pos c5] at H
   have c5b0 : decide (0 < (l0.length : Int)) = true := decide_eq_true c5
   have c5b1 : decide (0 < l0.length) = true := decide_eq_true (by omega)
   clear c5
   obtain ⟨ji6, hji6⟩ : ∃ j_ : Int, (wrap64 ((l0.length : Int) - 1)) = j_ := ⟨_, rfl⟩
   replace H : (if 0 ≤ (ji6) then (if (ji6) < (l0.length : Int) then (if ((rd_T133 l0 (ji6)).f1) ≥ a1 then (some (l0.set ((ji6) : Int).toNat (⟨(rd_T133 l0 (ji6)).f0, mx ((rd_T133 l0 (ji6)).f1) a2⟩ : S133))) else (if l0.length < 8796093022208 then (some (l0 ++ [(⟨a1, a2⟩ : S133)])) else (none))) else (none)) else (none)) = some r := by first | (rw [hji6] at H; exact H) | (simp only [hji6] at H ⊢; exact H)
   have hji6w : (IntKind.i64.wrap ((l0.length : Int) - 1)) = ji6 := (i64_w _).trans hji6
   by_cases c7 : 0 ≤ (ji6)
   ·rw [if_pos c7] at H
    have c7b0 : decide (0 ≤ (ji6)) = true := decide_eq_true c7
    clear c7
    by_cases c8 : (ji6) < (l0.length : Int)
    ·rw [if_pos c8] at H
     have c8b0 : decide ((ji6) < (l0.length : Int)) = true := decide_eq_true c8
     clear c8
     by_cases c9 : ((rd_T133 l0 (ji6)).f1) ≥ a1
     ·rw [if_pos c9] at H
      have c9b0 : decide (a1 ≤ ((rd_T133 l0 (ji6)).f1)) = true := decide_eq_true c9
      clear c9
      obtain ⟨ji10, hji10⟩ : ∃ j_ : Int, (mx ((rd_T133 l0 (ji6)).f1) a2) = j_ := ⟨_, rfl⟩
      replace H : (some (l0.set ((ji6) : Int).toNat (⟨(rd_T133 l0 (ji6)).f0, ji10⟩ : S133))) = some r := by first | (rw [hji10] at H; exact H) | (simp only [hji10] at H ⊢; exact H)
      have hji10_ : (if ((rd_T133 l0 (ji6)).f1) < a2 then a2 else ((rd_T133 l0 (ji6)).f1)) = ji10 := hji10
      obtain ⟨y299, hy299⟩ : ∃ y_ : List (S133), y_ = (l0.set ((ji6) : Int).toNat (⟨(rd_T133 l0 (ji6)).f0, ji10⟩ : S133)) := ⟨_, rfl⟩
      replace H : (some y299) = some r := by first | (rw [hy299]; with_reducible exact H) | (have H2_ := (Option.bind_some _ _).symm.trans H; rw [hy299]; with_reducible exact H2_) | (have H2_ := (Option.bind_some _ _).symm.trans H; with_reducible exact H2_) | with_reducible exact H | (rw [hy299]; exact H) | exact H
      have Ny299 := Aside0.mk hy299
      clear hy299
      obtain rfl := Option.some.inj H
      obtain ⟨Ao12, co12, eo12⟩ := Kd.R_slice HO0.out
      subst eo12
      have p297 : 0 ≤ ((ji6) : Int) := of_decide_eq_true (by first | (with_reducible assumption) | assumption)
      have q297 : (ji6) < (l0.length : Int) := of_decide_eq_true (by first | (with_reducible assumption) | assumption)
      obtain ⟨ad297, e297, hx297_0, hx297_1⟩ := at_T133 (Kd.R_reads' HO0.out).2.2 (ji6) p297 q297
      cases e297
      replace p297 := eq_true p297
      replace q297 := eq_true q297
      have p298 : 0 ≤ ((ji6) : Int) := of_decide_eq_true (by first | (with_reducible assumption) | assumption)
      have q298 : (ji6) < (l0.length : Int) := of_decide_eq_true (by first | (with_reducible assumption) | assumption)
      obtain ⟨ad298, e298, hx298_0, hx298_1⟩ := at_T133 (Kd.R_reads' HO0.out).2.2 (ji6) p298 q298
      obtain rfl : ad297 = ad298 := (by injection e298)
      replace p298 := eq_true p298
      replace q298 := eq_true q298
      have p11 : 0 ≤ ((ji6) : Int) := of_decide_eq_true (by first | (with_reducible assumption) | assumption)
      have q11 : ((ji6) : Int) < ((l0.length : Int) : Int) := of_decide_eq_true (by first | (with_reducible assumption) | assumption)
      obtain ⟨go11, co11, eo11, gb11, gl11, cl11, HG11⟩ := Kd.R_form HO0.out (by omega)
      (first | cases eo11 | (injection eo11 with ea_ en_ ec_; (first | subst ea_ | (injection ea_ with ea_; subst ea_)); subst ec_; clear en_))
      have GB11 := Aside0.mk gb11
      have GG11 := Aside0.mk HG11
      clear gb11 gl11 HG11
      have HMgo11 := Aside0.mk (show (P0_ go11 ∨ w.heap.size ≤ go11) from (HO0.out.1 _ rfl))
      (first | simp only [add_plain] at hx297_0 | skip)
      (first | simp only [add_plain] at hx297_1 | skip)
      (first | simp only [add_plain] at hx298_0 | skip)
      (first | simp only [add_plain] at hx298_1 | skip)
      obtain ⟨ce11, hcl11, hM11, hcc11, hfr11⟩ := Kd.R_elem HO0.out z133 ((ji6) : Int) p11 q11
      obtain rfl := k133_openM hM11
      have hx11_0 : w.cell? ⟨go11, ((ji6) : Int).toNat * 2, none⟩ = some (.int .i64 ((rd_T133 l0 (ji6)).f0)) := hcc11 0 _ rfl
      have hx11_1 : w.cell? ⟨go11, ((ji6) : Int).toNat * 2 + 1, none⟩ = some (.int .i64 ((rd_T133 l0 (ji6)).f1)) := hcc11 1 _ rfl
      have hf11_0 : w.frozen? ⟨go11, ((ji6) : Int).toNat * 2, none⟩ = false := hfr11 0
      have hf11_1 : w.frozen? ⟨go11, ((ji6) : Int).toNat * 2 + 1, none⟩ = false := hfr11 1
      clear hcl11 hcc11 hfr11 hM11
      replace p11 := eq_true p11
      replace q11 := eq_true q11
      have HX13 := Aside0.mk (show Kd.R k133 133 w w0.heap.size (fun k_ => (P0_ k_ ∨ w.heap.size ≤ k_)) (.slice (some ⟨go11, 0, none⟩) l0.length co12) l0 from (by (with_reducible repeat (first | apply Kd.R_alloc | apply Kd.R_drewN | apply Kd.R_drew)); exact HO0.out))
      obtain ⟨ce13, hcl13, hM13, hcc13, hfr13⟩ := Kd.R_elem HX13.out z133 ((ji6) : Int) (of_decide_eq_true (by first | (with_reducible assumption) | assumption)) (by have h_ : ((ji6) : Int) < ((l0.length : Int) : Int) := of_decide_eq_true (by first | (with_reducible assumption) | assumption); first | exact h_ | (have e_ := (Kd.R_reads' HO0.out).1; omega) | simpa using h_)
      obtain rfl := k133_openM hM13
      have HP13 := Kd.R_seg HX13.out ((ji6) : Int) (of_decide_eq_true (by first | (with_reducible assumption) | assumption)) (by have h_ : ((ji6) : Int) < ((l0.length : Int) : Int) := of_decide_eq_true (by first | (with_reducible assumption) | assumption); first | exact h_ | (have e_ := (Kd.R_reads' HO0.out).1; omega) | simpa using h_) (seg := [.int .i64 ji10]) (j := 1) hcl13 hcc13 (show 2 ≤ 2 from by decide) (x' := (⟨(rd_T133 l0 (ji6)).f0, ji10⟩ : S133)) (k133_mkM _ _ _ (⟨(rd_T133 l0 (ji6)).f0, ji10⟩ : S133) ) (fun _ hk => hk)
      have hx13_1 := hcc13 1 _ rfl
      (try simp only [show (k133).sz = 2 from rfl, Nat.mul_one, Nat.add_zero] at hx13_1)
      have hf13_1 := hfr13 1
      (try simp only [show (k133).sz = 2 from rfl, Nat.mul_one, Nat.add_zero] at hf13_1)
      clear hcl13 hcc13 hfr13 hM13
      go_enter Tryd.func92, Tryd.ntmps92
      go_wp2_with (first | ((with_reducible refine gate_store (t := 3) (p := 38) rfl ?_); refine store_event (t := 3) (p := 38) (v := ?vo_w14) (w1 := (w.setCell ⟨go11, ((ji6) : Int).toNat * 2 + 1, none⟩ (.int .i64 ji10))) ?hg ?ho ?hn ?hr ?_; (case ho => rfl); (case hg => rfl); (case hn => rfl); (case hr => first | (go_simp; done) | (go_simp; rfl)); intro w14 hw; have hg : w.grownBy w14 (some go11) := (by rw [hw]; exact HP13.2); have hp_ : Kd.R k133 133 w14 w0.heap.size (fun k_ => (P0_ k_ ∨ w.heap.size ≤ k_)) (.slice (some ⟨go11, 0, none⟩) l0.length co12) y299 := (by rw [hw, Ny299.out]; exact HP13.1); clear HP13; have n0_ := Aside0.mk (hp_); have n1_ := Aside0.mk ((by rw [hw]; exact below_set (HB.out) GB11.out : Below w0.heap.size w0 w14)); have n2_ := Aside0.mk (Kept.of_grown (S := (fun k_ => P0_ k_)) hg (by repeat (first | (with_reducible first | exact HK.out | apply Kept.alloc | apply Kept.drewN | apply Kept.drew) | exact HK.out)) (fun k_ e_ => (HO0.out.1 k_ e_))); clear HO0; clear HB; clear HK; have HO0 := n0_; have HB := n1_; have HK := n2_; clear n0_ n1_ n2_; clear hg hw hp_))
      go_ret
      exact ⟨_, by first | rfl | (simp [errW_none, errW_some] <;> rfl) | (simp only [← hji6, ← hji10]; first | rfl | (simp [errW_none, errW_some] <;> rfl)) | (simp [*, errW_none, errW_some] <;> rfl), by (with_reducible repeat (first | apply Kd.R_alloc | apply Kd.R_drewN | apply Kd.R_drew)); exact HO0.out, by repeat (first | (with_reducible first | exact HB.out | apply below_alloc | apply pw_below_drewN | apply below_drew1) | exact HB.out), by repeat (first | (with_reducible first | exact HK.out | apply Kept.alloc | apply Kept.drewN | apply Kept.drew) | exact HK.out)⟩
     ·rw [if_neg c9] at H
      have c9b0 : decide (a1 ≤ ((rd_T133 l0 (ji6)).f1)) = false := decide_eq_false c9
      clear c9
      by_cases c15 : l0.length < 8796093022208
      ·rw [if_pos c15] at H
       have LMc15 := Aside0.mk c15
       clear c15
       obtain ⟨y300, hy300⟩ : ∃ y_ : List (S133), y_ = (l0 ++ [(⟨a1, a2⟩ : S133)]) := ⟨_, rfl⟩
       replace H : (some y300) = some r := by first | (rw [hy300]; with_reducible exact H) | (have H2_ := (Option.bind_some _ _).symm.trans H; rw [hy300]; with_reducible exact H2_) | (have H2_ := (Option.bind_some _ _).symm.trans H; with_reducible exact H2_) | with_reducible exact H | (rw [hy300]; exact H) | exact H
       have Ny300 := Aside0.mk hy300
       clear hy300
       obtain rfl := Option.some.inj H
       obtain ⟨Ao16, co16, eo16⟩ := Kd.R_slice HO0.out
       subst eo16
       have p297 : 0 ≤ ((ji6) : Int) := of_decide_eq_true (by first | (with_reducible assumption) | assumption)
       have q297 : (ji6) < (l0.length : Int) := of_decide_eq_true (by first | (with_reducible assumption) | assumption)
       obtain ⟨ad297, e297, hx297_0, hx297_1⟩ := at_T133 (Kd.R_reads' HO0.out).2.2 (ji6) p297 q297
       cases e297
       replace p297 := eq_true p297
       replace q297 := eq_true q297
       go_enter Tryd.func92, Tryd.ntmps92
       go_wp2_with (first | ((with_reducible refine gate_builtin (b := .append) (xs := #[.tmp 40, .tmp 44]) rfl ?_); at_builtin; refine Kd.R_append k133 (w0 := w0) w0.heap.size rfl (.tmp 40) (.tmp 44) 61 133 (.agg #[(.int .i64 0), (.int .i64 0)]) 16 rfl Tryd.underlying61 info133 rfl (by decide) (by omega) (.slice (some ad297) l0.length co16) l0 (⟨a1, a2⟩ : S133) [.int .i64 a1, .int .i64 a2] (fun k_ => (P0_ k_ ∨ w.heap.size ≤ k_)) (fun _ => False) rfl rfl ?aP (fun _ hk => hk.elim) ?aF ?aO ?aB ?aS ?aL ?_; (case aP => exact k133_mkM _ _ _ (⟨a1, a2⟩ : S133)); (case aB => exact (by repeat (first | (with_reducible first | exact HB.out | apply below_alloc | apply pw_below_drewN | apply below_drew1) | exact HB.out))); (case aF => exact (fun k_ hk => (.inr (Nat.le_trans (by first | exact HK.out.1 | exact (show Kept w _ (fun k_ => P0_ k_) from by repeat (first | (with_reducible first | exact HK.out | apply Kept.alloc | apply Kept.drewN | apply Kept.drew) | exact HK.out)).1) hk)))); (case aO => exact (by (with_reducible repeat (first | apply Kd.R_alloc | apply Kd.R_drewN | apply Kd.R_drew)); exact HO0.out)); (case aS => exact (below_size (by repeat (first | (with_reducible first | exact HB.out | apply below_alloc | apply pw_below_drewN | apply below_drew1) | exact HB.out)))); (case aL => have := LMc15.out; omega); intro v301 w17 ho hb hg hat; rw [← Ny300.out] at ho; have n0_ := Aside0.mk (hb); have n1_ := Aside0.mk (Kept.of_grown (S := (fun k_ => P0_ k_)) hg (by repeat (first | (with_reducible first | exact HK.out | apply Kept.alloc | apply Kept.drewN | apply Kept.drew) | exact HK.out)) (fun k_ e_ => (HO0.out.1 k_ e_))); have n2_ := Aside0.mk (ho); clear HB; clear HK; clear HO0; have HB := n0_; have HK := n1_; have HO302 := n2_; clear n0_ n1_ n2_; clear ho hb hg hat))
       go_ret
       exact ⟨_, by first | rfl | (simp [errW_none, errW_some] <;> rfl) | (simp only [← hji6]; first | rfl | (simp [errW_none, errW_some] <;> rfl)) | (simp [*, errW_none, errW_some] <;> rfl), by (with_reducible repeat (first | apply Kd.R_alloc | apply Kd.R_drewN | apply Kd.R_drew)); exact HO302.out, by repeat (first | (with_reducible first | exact HB.out | apply below_alloc | apply pw_below_drewN | apply below_drew1) | exact HB.out), by repeat (first | (with_reducible first | exact HK.out | apply Kept.alloc | apply Kept.drewN | apply Kept.drew) | exact HK.out)⟩
      ·rw [if_neg c15] at H
       exact absurd H (by simp)
    ·rw [if_neg c8] at H
     exact absurd H (by simp)
   ·rw [if_neg c7] at H
    exact absurd H (by simp)
  ·rw [if_neg c5] at H
   have c5b0 : decide (0 < (l0.length : Int)) = false := decide_eq_false c5
   have c5b1 : decide (0 < l0.length) = false := decide_eq_false (by omega)
   clear c5
   by_cases c18 : l0.length < 8796093022208
   ·rw [if_pos c18] at H
    have LMc18 := Aside0.mk c18
    clear c18
    obtain ⟨y303, hy303⟩ : ∃ y_ : List (S133), y_ = (l0 ++ [(⟨a1, a2⟩ : S133)]) := ⟨_, rfl⟩
    replace H : (some y303) = some r := by first | (rw [hy303]; with_reducible exact H) | (have H2_ := (Option.bind_some _ _).symm.trans H; rw [hy303]; with_reducible exact H2_) | (have H2_ := (Option.bind_some _ _).symm.trans H; with_reducible exact H2_) | with_reducible exact H | (rw [hy303]; exact H) | exact H
    have Ny303 := Aside0.mk hy303
    clear hy303
    obtain rfl := Option.some.inj H
    obtain ⟨Ao19, co19, eo19⟩ := Kd.R_slice HO0.out
    subst eo19
    go_enter Tryd.func92, Tryd.ntmps92
    go_wp2_with (first | ((with_reducible refine gate_builtin (b := .append) (xs := #[.tmp 40, .tmp 44]) rfl ?_); at_builtin; refine Kd.R_append k133 (w0 := w0) w0.heap.size rfl (.tmp 40) (.tmp 44) 61 133 (.agg #[(.int .i64 0), (.int .i64 0)]) 16 rfl Tryd.underlying61 info133 rfl (by decide) (by omega) (.slice Ao19 l0.length co19) l0 (⟨a1, a2⟩ : S133) [.int .i64 a1, .int .i64 a2] (fun k_ => (P0_ k_ ∨ w.heap.size ≤ k_)) (fun _ => False) rfl rfl ?aP (fun _ hk => hk.elim) ?aF ?aO ?aB ?aS ?aL ?_; (case aP => exact k133_mkM _ _ _ (⟨a1, a2⟩ : S133)); (case aB => exact (by repeat (first | (with_reducible first | exact HB.out | apply below_alloc | apply pw_below_drewN | apply below_drew1) | exact HB.out))); (case aF => exact (fun k_ hk => (.inr (Nat.le_trans (by first | exact HK.out.1 | exact (show Kept w _ (fun k_ => P0_ k_) from by repeat (first | (with_reducible first | exact HK.out | apply Kept.alloc | apply Kept.drewN | apply Kept.drew) | exact HK.out)).1) hk)))); (case aO => exact (by (with_reducible repeat (first | apply Kd.R_alloc | apply Kd.R_drewN | apply Kd.R_drew)); exact HO0.out)); (case aS => exact (below_size (by repeat (first | (with_reducible first | exact HB.out | apply below_alloc | apply pw_below_drewN | apply below_drew1) | exact HB.out)))); (case aL => have := LMc18.out; omega); intro v304 w20 ho hb hg hat; rw [← Ny303.out] at ho; have n0_ := Aside0.mk (hb); have n1_ := Aside0.mk (Kept.of_grown (S := (fun k_ => P0_ k_)) hg (by repeat (first | (with_reducible first | exact HK.out | apply Kept.alloc | apply Kept.drewN | apply Kept.drew) | exact HK.out)) (fun k_ e_ => (HO0.out.1 k_ e_))); have n2_ := Aside0.mk (ho); clear HB; clear HK; clear HO0; have HB := n0_; have HK := n1_; have HO305 := n2_; clear n0_ n1_ n2_; clear ho hb hg hat))
    go_ret
    exact ⟨_, by first | rfl | (simp [errW_none, errW_some] <;> rfl) | (simp [*, errW_none, errW_some] <;> rfl), by (with_reducible repeat (first | apply Kd.R_alloc | apply Kd.R_drewN | apply Kd.R_drew)); exact HO305.out, by repeat (first | (with_reducible first | exact HB.out | apply below_alloc | apply pw_below_drewN | apply below_drew1) | exact HB.out), by repeat (first | (with_reducible first | exact HK.out | apply Kept.alloc | apply Kept.drewN | apply Kept.drew) | exact HK.out)⟩
   ·rw [if_neg c18] at H
    exact absurd H (by simp)
def span_bounded.f (l0 : List (S133)) : Option ((List (S133)) × Int) := if (l0.length : Int) > 32768 then (some (([] : List (S133)), 21)) else (some (l0, 0))
set_option maxHeartbeats 8000000 in
set_option maxRecDepth 100000 in
theorem span_bounded.calls (P0_ : Nat → Prop) (u9000_ : Value) (l0 : List (S133)) (r1 : List (S133)) (r2 : Int) (w0 w : World) (hB : Below w0.heap.size w0 w) (ho0 : Kd.R k133 133 w w0.heap.size P0_ u9000_ l0) (h : span_bounded.f l0 = some (r1, r2)) :
  Calls Tryd.prog 93 #[u9000_] w fun e w' => ∃ v0_ : Value, e = .returned (.tuple #[v0_, .int .i64 r2]) ∧ Kd.R k133 133 w' w0.heap.size (fun k_ => (P0_ k_ ∨ w.heap.size ≤ k_)) v0_ r1 ∧ Below w0.heap.size w0 w' ∧ Kept w w' (fun k_ => P0_ k_) := by
 have HO0 := Aside0.mk (show Kd.R k133 133 w w0.heap.size (fun k_ => (P0_ k_ ∨ w.heap.size ≤ k_)) u9000_ l0 from Kd.R_mono ho0 (fun k_ hk => (.inl hk)))
 have HK := Aside0.mk (Kept.refl w (fun k_ => P0_ k_))
 have HW0 := Aside0.mk hB.size
 have HB := Aside0.mk hB
 clear hB
 have H : (if (l0.length : Int) > 32768 then (some (([] : List (S133)), 21)) else (some (l0, 0))) = some (r1, r2) := h
 clear h
 by_cases c2 : (l0.length : Int) > 32768
 ·rw [if_pos c2] at H
  have c2b0 : decide (32768 < (l0.length : Int)) = true := decide_eq_true c2
  have c2b1 : decide (32768 < l0.length) = true := decide_eq_true (by omega)
  clear c2
  simp only [Option.some.injEq, Prod.mk.injEq] at H
  obtain ⟨rfl, rfl⟩ := H
  obtain ⟨Ao3, co3, eo3⟩ := Kd.R_slice HO0.out
  subst eo3
  go_enter Tryd.func93, Tryd.ntmps93
  go_wp2
  go_ret2
  exact ⟨_, by first | rfl | (simp [errW_none, errW_some] <;> rfl) | (simp [*, errW_none, errW_some] <;> rfl), by first | exact Kd.R_nil _ _ _ _ _ | exact Kd.N_nil _ _ _ _ _ | exact Kd.V_nil _ _ _ _ _ | exact Kd.Q_nil _ _ _ _ _ | exact Kd.S_nil _ _ _ _ _, by repeat (first | (with_reducible first | exact HB.out | apply below_alloc | apply pw_below_drewN | apply below_drew1) | exact HB.out), by repeat (first | (with_reducible first | exact HK.out | apply Kept.alloc | apply Kept.drewN | apply Kept.drew) | exact HK.out)⟩
 ·rw [if_neg c2] at H
  have c2b0 : decide (32768 < (l0.length : Int)) = false := decide_eq_false c2
  have c2b1 : decide (32768 < l0.length) = false := decide_eq_false (by omega)
  clear c2
  simp only [Option.some.injEq, Prod.mk.injEq] at H
  obtain ⟨rfl, rfl⟩ := H
  obtain ⟨Ao4, co4, eo4⟩ := Kd.R_slice HO0.out
  subst eo4
  go_enter Tryd.func93, Tryd.ntmps93
  go_wp2
  go_ret2
  exact ⟨_, by first | rfl | (simp [errW_none, errW_some] <;> rfl) | (simp [*, errW_none, errW_some] <;> rfl), by (with_reducible repeat (first | apply Kd.R_alloc | apply Kd.R_drewN | apply Kd.R_drew)); exact HO0.out, by repeat (first | (with_reducible first | exact HB.out | apply below_alloc | apply pw_below_drewN | apply below_drew1) | exact HB.out), by repeat (first | (with_reducible first | exact HK.out | apply Kept.alloc | apply Kept.drewN | apply Kept.drew) | exact HK.out)⟩
def span_both.f (k : Nat) (l0 : List (S133)) (l1 : List (S133)) : Option (Int) := (span_Check.f k l0).bind fun bt318 => (if bt318.2 = 0 then ((span_Check.f k l1).bind fun bt320 => (some bt320.2)) else (some bt318.2))
theorem span_both.mono : ∀ a0 a1 k, LeO (span_both.f k a0 a1) (span_both.f (k + 1) a0 a1) := by
 intro a0 a1 k
 unfold span_both.f
 repeat' first
   | (with_reducible exact span_Check.mono _ _)
   | (with_reducible exact LeO.refl _)
   | (with_reducible exact LeO.none _)
   | (with_reducible refine LeO.ite ?_ ?_)
   | (with_reducible refine LeO.bind ?_ (fun _ => ?_))
   | exact span_Check.mono _ _
   | exact LeO.none _
   | refine LeO.ite ?_ ?_
   | refine LeO.bind ?_ (fun _ => ?_)
set_option maxHeartbeats 8000000 in
set_option maxRecDepth 100000 in
theorem span_both.calls (k : Nat) (A0 : Option Addr) (c0 : Nat) (l0 : List (S133)) (A1 : Option Addr) (c1 : Nat) (l1 : List (S133)) (r : Int) (w : World) (hr0 : Kd.C k133 w A0 l0.length l0) (hc0 : l0.length ≤ c0) (hr1 : Kd.C k133 w A1 l1.length l1) (hc1 : l1.length ≤ c1) (h : span_both.f k l0 l1 = some r) :
  Calls Tryd.prog 94 #[.slice A0 l0.length c0, .slice A1 l1.length c1] w fun e w' => e = .returned (.int .i64 r) ∧ Below w.heap.size w w' := by
 have HR0 := Aside0.mk hr0
 have HC0 := Aside0.mk hc0
 clear hr0 hc0
 have HR1 := Aside0.mk hr1
 have HC1 := Aside0.mk hc1
 clear hr1 hc1
 have HB := Aside0.mk (Below.refl w.heap.size w)
 have H : ((span_Check.f k l0).bind fun bt318 => (if bt318.2 = 0 then ((span_Check.f k l1).bind fun bt320 => (some bt320.2)) else (some bt318.2))) = some r := h
 clear h
 replace H := Option.bind_eq_some_iff.mp H
 obtain ⟨⟨t318, t319⟩, A30, H⟩ := H
 replace H : (if t319 = 0 then ((span_Check.f k l1).bind fun bt320 => (some bt320.2)) else (some t319)) = some r := H
 have A3 := Aside0.mk A30
 clear A30
 by_cases c4 : t319 = 0
 ·rw [if_pos c4] at H
  have c4b0 : (t319 == 0) = true := beq_iff_eq.mpr c4
  have c4b1 : (t319 != 0) = false := bne_eq_false_iff_eq.mpr c4
  clear c4
  replace H := Option.bind_eq_some_iff.mp H
  obtain ⟨⟨t320, t321⟩, A50, H⟩ := H
  replace H : (some t321) = some r := H
  have A5 := Aside0.mk A50
  clear A50
  obtain rfl := Option.some.inj H
  go_enter Tryd.func94, Tryd.ntmps94
  go_wp2_with (first | ((with_reducible refine gate_callee (f := 37) rfl ?_); refine goesL_ (some 11) rfl rfl Tryd.func37 (by kernel_rfl) rfl #[.slice A0 l0.length c0] rfl (by (try simp only [List.map_toArray, List.map_cons, List.map_nil]); first | done | rfl | (simp only [List.length_drop, List.length_take]; rfl)) ?_; (with_reducible refine (span_Check.calls k _ _ l0 t318 t319 _ ?side1 ?side2 A3.out).mono ?_); (case side1 => repeat (first | exact HR0.out | (with_reducible refine Kd.C_alloc ?_ _) | (with_reducible refine Kd.C_drewN ?_ _) | (with_reducible refine Kd.C_drew ?_))); (case side2 => exact HC0.out); rintro e w6 ⟨rfl, hb⟩; refine ⟨_, rfl, ?_⟩; have n0_ := Aside0.mk (below_step (by repeat (first | (with_reducible first | exact HB.out | apply below_alloc | apply pw_below_drewN | apply below_drew1) | exact HB.out)) hb); clear HB; have HB := n0_; clear n0_; (try clear hb); (try clear hb2); (try clear hk); (try clear hi)) | ((with_reducible refine gate_callee (f := 37) rfl ?_); refine goesL_ (some 19) rfl rfl Tryd.func37 (by kernel_rfl) rfl #[.slice A1 l1.length c1] rfl (by (try simp only [List.map_toArray, List.map_cons, List.map_nil]); first | done | rfl | (simp only [List.length_drop, List.length_take]; rfl)) ?_; (with_reducible refine (span_Check.calls k _ _ l1 t320 t321 _ ?side1 ?side2 A5.out).mono ?_); (case side1 => repeat (first | exact (Kd.C_below HR1.out HB.out) | (with_reducible refine Kd.C_alloc ?_ _) | (with_reducible refine Kd.C_drewN ?_ _) | (with_reducible refine Kd.C_drew ?_))); (case side2 => exact HC1.out); rintro e w7 ⟨rfl, hb⟩; refine ⟨_, rfl, ?_⟩; have n0_ := Aside0.mk (below_step (by repeat (first | (with_reducible first | exact HB.out | apply below_alloc | apply pw_below_drewN | apply below_drew1) | exact HB.out)) hb); clear HB; have HB := n0_; clear n0_; (try clear hb); (try clear hb2); (try clear hk); (try clear hi)))
  go_ret
  exact ⟨by first | rfl | (simp [errW_none, errW_some] <;> rfl) | (simp [*, errW_none, errW_some] <;> rfl), by repeat (first | (with_reducible first | exact HB.out | apply below_alloc | apply pw_below_drewN | apply below_drew1) | exact HB.out)⟩
 ·rw [if_neg c4] at H
  have c4b0 : (t319 == 0) = false := beq_eq_false_iff_ne.mpr c4
  have c4b1 : (t319 != 0) = true := bne_iff_ne.mpr c4
  obtain rfl := Option.some.inj H
  go_enter Tryd.func94, Tryd.ntmps94
  go_wp2_with (first | ((with_reducible refine gate_callee (f := 37) rfl ?_); refine goesL_ (some 11) rfl rfl Tryd.func37 (by kernel_rfl) rfl #[.slice A0 l0.length c0] rfl (by (try simp only [List.map_toArray, List.map_cons, List.map_nil]); first | done | rfl | (simp only [List.length_drop, List.length_take]; rfl)) ?_; (with_reducible refine (span_Check.calls k _ _ l0 t318 t319 _ ?side1 ?side2 A3.out).mono ?_); (case side1 => repeat (first | exact HR0.out | (with_reducible refine Kd.C_alloc ?_ _) | (with_reducible refine Kd.C_drewN ?_ _) | (with_reducible refine Kd.C_drew ?_))); (case side2 => exact HC0.out); rintro e w8 ⟨rfl, hb⟩; refine ⟨_, rfl, ?_⟩; have n0_ := Aside0.mk (below_step (by repeat (first | (with_reducible first | exact HB.out | apply below_alloc | apply pw_below_drewN | apply below_drew1) | exact HB.out)) hb); clear HB; have HB := n0_; clear n0_; (try clear hb); (try clear hb2); (try clear hk); (try clear hi)))
  go_ret
  exact ⟨by first | rfl | (simp [errW_none, errW_some] <;> rfl) | (simp [*, errW_none, errW_some] <;> rfl), by repeat (first | (with_reducible first | exact HB.out | apply below_alloc | apply pw_below_drewN | apply below_drew1) | exact HB.out)⟩
end Go.Proofs.YteeigokkafcaaaaDoor.Pr
end
section
namespace Go.Proofs.YteeigokkafcaaaaDoor.Pr
open Go.RowKit Go.Proofs.YteeigokkafcaaaaDoorW.PrintWords Go.Proofs.YteeigokkafcaaaaDoorW.PrintLast Go.Proofs.YteeigokkafcaaaaDoorW.PrintMore
attribute [local go_sem] max2_int min2_int max_two min_two max_three min_three max_four min_four
set_option linter.unusedVariables false
set_option linter.unusedSimpArgs false
def span_outside.f (a0 : Int) : Option (Bool) := if a0 < 0 then (some true) else (some (decide (a0 > 1048576)))
set_option maxHeartbeats 8000000 in
set_option maxRecDepth 100000 in
theorem span_outside.calls (a0 : Int) (r : Bool) (w : World) (h : span_outside.f a0 = some r) :
  Calls Tryd.prog 95 #[.int .i64 a0] w fun e w' => e = .returned (.bool r) ∧ Drawn0 w w' := by
 have H : (if a0 < 0 then (some true) else (some (decide (a0 > 1048576)))) = some r := h
 clear h
 by_cases c2 : a0 < 0
 ·rw [if_pos c2] at H
  have c2b0 : decide (a0 < 0) = true := decide_eq_true c2
  clear c2
  obtain rfl := Option.some.inj H
  go_enter Tryd.func95, Tryd.ntmps95
  go_wp2
  go_ret
  exact ⟨by first | rfl | (simp; done) | (simp [*]; done), by repeat (first | exact Drawn0.refl _ | apply Drawn0.step)⟩
 ·rw [if_neg c2] at H
  have c2b0 : decide (a0 < 0) = false := decide_eq_false c2
  clear c2
  obtain rfl := Option.some.inj H
  go_enter Tryd.func95, Tryd.ntmps95
  go_wp2
  go_ret
  exact ⟨by first | rfl | (simp; done) | (simp [*]; done), by repeat (first | exact Drawn0.refl _ | apply Drawn0.step)⟩
mutual
def span_Through.j0 : Nat → List (S133) → Int → Int → Bool → Option ((List (S133)) × Int)
 | 0, _, _, _, _ => none
 | k + 1, x0, x1, x2, x27 => if x27 = true then (some (([] : List (S133)), 12)) else (if (x0.length : Int) > 0 then (if 0 ≤ (wrap64 ((x0.length : Int) - 1)) then (if (wrap64 ((x0.length : Int) - 1)) < (x0.length : Int) then (if ((rd_T133 x0 (wrap64 ((x0.length : Int) - 1))).f1) > x1 then (if (wrap64 (((rd_T133 x0 (wrap64 ((x0.length : Int) - 1))).f1) + x2)) > 1048576 then (some (([] : List (S133)), 24)) else (span_Through.j1 k x0 x1 x2)) else (span_Through.j1 k x0 x1 x2)) else (none)) else (none)) else (span_Through.j1 k x0 x1 x2))
def span_Through.j1 : Nat → List (S133) → Int → Int → Option ((List (S133)) × Int)
 | 0, _, _, _ => none
 | k + 1, x0, x1, x2 => span_Through.l0 k x1 x2 ([] : List (S133)) x0 (x0.length : Int) 0
def span_Through.l0 : Nat → Int → Int → List (S133) → List (S133) → Int → Int → Option ((List (S133)) × Int)
 | 0, _, _, _, _, _, _ => none
 | k + 1, x1, x2, x11, x47, x48, x49 => if x49 < x48 then (if 0 ≤ x49 then (if x49 < (x47.length : Int) then ((span_add.f x11 ((rd_T133 x47 x49).f0) (mn ((rd_T133 x47 x49).f1) x1)).bind fun t380 => ((span_add.f t380 (wrap64 ((mx ((rd_T133 x47 x49).f0) x1) + x2)) (wrap64 (((rd_T133 x47 x49).f1) + x2))).bind fun t383 => (span_Through.l0 k x1 x2 t383 x47 x48 (wrap64 (x49 + 1))))) else (none)) else (none)) else ((span_bounded.f x11).bind fun bt386 => (some (bt386.1, bt386.2)))
end
def span_Through.f (k : Nat) (l0 : List (S133)) (a1 : Int) (a2 : Int) : Option ((List (S133)) × Int) := (span_Check.f k l0).bind fun bt373 => (if bt373.2 = 0 then ((span_outside.f a1).bind fun t375 => (if t375 = true then (span_Through.j0 k l0 a1 a2 true) else ((span_outside.f a2).bind fun t376 => (span_Through.j0 k l0 a1 a2 t376)))) else (some (([] : List (S133)), bt373.2)))
theorem span_Through.mono_l : ∀ k, (∀ y0 y1 y2 y3, LeO (span_Through.j0 k y0 y1 y2 y3) (span_Through.j0 (k + 1) y0 y1 y2 y3)) ∧ (∀ y0 y1 y2, LeO (span_Through.j1 k y0 y1 y2) (span_Through.j1 (k + 1) y0 y1 y2)) ∧ (∀ y0 y1 y2 y3 y4 y5, LeO (span_Through.l0 k y0 y1 y2 y3 y4 y5) (span_Through.l0 (k + 1) y0 y1 y2 y3 y4 y5))
 | 0 => ⟨fun _ _ _ _ r h => by simp [span_Through.j0] at h, fun _ _ _ r h => by simp [span_Through.j1] at h, fun _ _ _ _ _ _ r h => by simp [span_Through.l0] at h⟩
 | k + 1 => by
  obtain ⟨ih0, ih1, ih2⟩ := span_Through.mono_l k
  refine ⟨?_, ?_, ?_⟩
  ·intro y0 y1 y2 y3
   unfold span_Through.j0
   repeat' first
   | (with_reducible exact ih0 _ _ _ _)
   | (with_reducible exact ih1 _ _ _)
   | (with_reducible exact ih2 _ _ _ _ _ _)
   | (with_reducible exact span_Check.mono _ _)
   | (with_reducible exact LeO.refl _)
   | (with_reducible exact LeO.none _)
   | (with_reducible refine LeO.ite ?_ ?_)
   | (with_reducible refine LeO.bind ?_ (fun _ => ?_))
   | exact ih0 _ _ _ _
   | exact ih1 _ _ _
   | exact ih2 _ _ _ _ _ _
   | exact span_Check.mono _ _
   | exact LeO.none _
   | refine LeO.ite ?_ ?_
   | refine LeO.bind ?_ (fun _ => ?_)
  ·intro y0 y1 y2
   unfold span_Through.j1
   repeat' first
   | (with_reducible exact ih0 _ _ _ _)
   | (with_reducible exact ih1 _ _ _)
   | (with_reducible exact ih2 _ _ _ _ _ _)
   | (with_reducible exact span_Check.mono _ _)
   | (with_reducible exact LeO.refl _)
   | (with_reducible exact LeO.none _)
   | (with_reducible refine LeO.ite ?_ ?_)
   | (with_reducible refine LeO.bind ?_ (fun _ => ?_))
   | exact ih0 _ _ _ _
   | exact ih1 _ _ _
   | exact ih2 _ _ _ _ _ _
   | exact span_Check.mono _ _
   | exact LeO.none _
   | refine LeO.ite ?_ ?_
   | refine LeO.bind ?_ (fun _ => ?_)
  ·intro y0 y1 y2 y3 y4 y5
   unfold span_Through.l0
   repeat' first
   | (with_reducible exact ih0 _ _ _ _)
   | (with_reducible exact ih1 _ _ _)
   | (with_reducible exact ih2 _ _ _ _ _ _)
   | (with_reducible exact span_Check.mono _ _)
   | (with_reducible exact LeO.refl _)
   | (with_reducible exact LeO.none _)
   | (with_reducible refine LeO.ite ?_ ?_)
   | (with_reducible refine LeO.bind ?_ (fun _ => ?_))
   | exact ih0 _ _ _ _
   | exact ih1 _ _ _
   | exact ih2 _ _ _ _ _ _
   | exact span_Check.mono _ _
   | exact LeO.none _
   | refine LeO.ite ?_ ?_
   | refine LeO.bind ?_ (fun _ => ?_)
theorem span_Through.mono : ∀ a0 a1 a2 k, LeO (span_Through.f k a0 a1 a2) (span_Through.f (k + 1) a0 a1 a2) := by
 intro a0 a1 a2 k
 obtain ⟨ih0, ih1, ih2⟩ := span_Through.mono_l k
 unfold span_Through.f
 repeat' first
   | (with_reducible exact ih0 _ _ _ _)
   | (with_reducible exact ih1 _ _ _)
   | (with_reducible exact ih2 _ _ _ _ _ _)
   | (with_reducible exact span_Check.mono _ _)
   | (with_reducible exact LeO.refl _)
   | (with_reducible exact LeO.none _)
   | (with_reducible refine LeO.ite ?_ ?_)
   | (with_reducible refine LeO.bind ?_ (fun _ => ?_))
   | exact ih0 _ _ _ _
   | exact ih1 _ _ _
   | exact ih2 _ _ _ _ _ _
   | exact span_Check.mono _ _
   | exact LeO.none _
   | refine LeO.ite ?_ ?_
   | refine LeO.bind ?_ (fun _ => ?_)
set_option maxHeartbeats 8000000 in
set_option maxRecDepth 100000 in
theorem span_Through.calls (k : Nat) (A0 : Option Addr) (c0 : Nat) (l0 : List (S133)) (a1 : Int) (a2 : Int) (r1 : List (S133)) (r2 : Int) (w : World) (hr0 : Kd.C k133 w A0 l0.length l0) (hc0 : l0.length ≤ c0) (h : span_Through.f k l0 a1 a2 = some (r1, r2)) :
  Calls Tryd.prog 51 #[.slice A0 l0.length c0, .int .i64 a1, .int .i64 a2] w fun e w' => ∃ v0_ : Value, e = .returned (.tuple #[v0_, .int .i64 r2]) ∧ Kd.R k133 133 w' w.heap.size (fun _ => True) v0_ r1 ∧ Below w.heap.size w w' := by
 have hu133 := Tryd.underlying133
 have HR0 := Aside0.mk hr0
 have HC0 := Aside0.mk hc0
 clear hr0 hc0
 have HB := Aside0.mk (Below.refl w.heap.size w)
 have H : ((span_Check.f k l0).bind fun bt373 => (if bt373.2 = 0 then ((span_outside.f a1).bind fun t375 => (if t375 = true then (span_Through.j0 k l0 a1 a2 true) else ((span_outside.f a2).bind fun t376 => (span_Through.j0 k l0 a1 a2 t376)))) else (some (([] : List (S133)), bt373.2)))) = some (r1, r2) := h
 clear h
 replace H := Option.bind_eq_some_iff.mp H
 obtain ⟨⟨t373, t374⟩, A40, H⟩ := H
 replace H : (if t374 = 0 then ((span_outside.f a1).bind fun t375 => (if t375 = true then (span_Through.j0 k l0 a1 a2 true) else ((span_outside.f a2).bind fun t376 => (span_Through.j0 k l0 a1 a2 t376)))) else (some (([] : List (S133)), t374))) = some (r1, r2) := H
 have A4 := Aside0.mk A40
 clear A40
 by_cases c5 : t374 = 0
 ·rw [if_pos c5] at H
  have c5b0 : (t374 == 0) = true := beq_iff_eq.mpr c5
  have c5b1 : (t374 != 0) = false := bne_eq_false_iff_eq.mpr c5
  clear c5
  have HC6 := Aside0.mk H
  clear H
  go_enter Tryd.func51, Tryd.ntmps51
  go_upto_region 4 with (first | ((with_reducible refine gate_callee (f := 37) rfl ?_); refine goesL_ (some 16) rfl rfl Tryd.func37 (by kernel_rfl) rfl #[.slice A0 l0.length c0] rfl (by (try simp only [List.map_toArray, List.map_cons, List.map_nil]); first | done | rfl | (simp only [List.length_drop, List.length_take]; rfl)) ?_; (with_reducible refine (span_Check.calls k _ _ l0 t373 t374 _ ?side1 ?side2 A4.out).mono ?_); (case side1 => repeat (first | exact HR0.out | (with_reducible refine Kd.C_alloc ?_ _) | (with_reducible refine Kd.C_drewN ?_ _) | (with_reducible refine Kd.C_drew ?_))); (case side2 => exact HC0.out); rintro e w7 ⟨rfl, hb⟩; refine ⟨_, rfl, ?_⟩; have n0_ := Aside0.mk (below_step (by repeat (first | (with_reducible first | exact HB.out | apply below_alloc | apply pw_below_drewN | apply below_drew1) | exact HB.out)) hb); clear HB; have HB := n0_; clear n0_; (try clear hb); (try clear hb2); (try clear hk); (try clear hi)))
  (try simp only [Act.put, List.setIfInBounds_toArray, List.set_cons_zero, List.set_cons_succ])
  go_cut [27] (fun v27 wc => ∃ (kq : Nat) (x27_5 : Bool), v27 = .bool x27_5 ∧ Aside0 (span_Through.j0 kq l0 a1 a2 x27_5 = some (r1, r2)) ∧ Aside0 (kq ≤ k) ∧ Aside0 (Below w.heap.size w wc))
  case first =>
   have H := HC6.out
   clear HC6
   replace H := Option.bind_eq_some_iff.mp H
   obtain ⟨t375, A80, H⟩ := H
   replace H : (if t375 = true then (span_Through.j0 k l0 a1 a2 true) else ((span_outside.f a2).bind fun t376 => (span_Through.j0 k l0 a1 a2 t376))) = some (r1, r2) := H
   have A8 := Aside0.mk A80
   clear A80
   by_cases c9 : t375 = true
   ·subst c9
    have H1 : (span_Through.j0 k l0 a1 a2 true) = some (r1, r2) := by rw [if_pos rfl] at H; exact H
    clear H
    have H := H1
    clear H1
    have H' := Aside0.mk H
    clear H
    go_wp2_with (first | ((with_reducible refine gate_callee (f := 95) rfl ?_); refine goesL_ (some 23) rfl rfl Tryd.func95 (by kernel_rfl) rfl #[.int .i64 a1] rfl (by (try simp only [List.map_toArray, List.map_cons, List.map_nil]); first | done | rfl | (simp only [List.length_drop, List.length_take]; rfl)) ?_; (with_reducible refine (span_outside.calls a1 true _ A8.out).mono ?_); rintro e w' ⟨rfl, ⟨nd, rfl⟩⟩; refine ⟨_, rfl, ?_⟩))
    go_meet
    case rel => exact ⟨_, (true), (by first | rfl | (simp; done) | (simp [*]; done)), H', ⟨by first | omega | exact Nat.le_refl _⟩, ⟨by repeat (first | (with_reducible first | exact HB.out | apply below_alloc | apply pw_below_drewN | apply below_drew1) | exact HB.out)⟩⟩
   ·replace c9 := Bool.eq_false_iff.mpr c9
    subst c9
    have H1 : ((span_outside.f a2).bind fun t376 => (span_Through.j0 k l0 a1 a2 t376)) = some (r1, r2) := by rw [if_neg (show ¬ (false = true) by decide)] at H; exact H
    clear H
    have H := H1
    clear H1
    replace H := Option.bind_eq_some_iff.mp H
    obtain ⟨t376, A100, H⟩ := H
    replace H : (span_Through.j0 k l0 a1 a2 t376) = some (r1, r2) := H
    have A10 := Aside0.mk A100
    clear A100
    have H' := Aside0.mk H
    clear H
    go_wp2_with (first | ((with_reducible refine gate_callee (f := 95) rfl ?_); refine goesL_ (some 23) rfl rfl Tryd.func95 (by kernel_rfl) rfl #[.int .i64 a1] rfl (by (try simp only [List.map_toArray, List.map_cons, List.map_nil]); first | done | rfl | (simp only [List.length_drop, List.length_take]; rfl)) ?_; (with_reducible refine (span_outside.calls a1 false _ A8.out).mono ?_); rintro e w' ⟨rfl, ⟨nd, rfl⟩⟩; refine ⟨_, rfl, ?_⟩) | (go_at_call 95; (with_reducible refine (span_outside.calls a2 t376 _ A10.out).mono ?_); rintro e w' ⟨rfl, ⟨nd, rfl⟩⟩))
    go_meet
    case rel => exact ⟨_, (t376), (by first | rfl | (simp; done) | (simp [*]; done)), H', ⟨by first | omega | exact Nat.le_refl _⟩, ⟨by repeat (first | (with_reducible first | exact HB.out | apply below_alloc | apply pw_below_drewN | apply below_drew1) | exact HB.out)⟩⟩
  case rest =>
   clear HC6
   try clear p2
   try clear c3
   try clear c5
   try clear c5b0
   try clear c5b1
   try clear c9
   obtain ⟨kq, x27_5, rfl, HA, HJ5, HB⟩ := hcut
   cases kq with
   | zero => exact absurd HA.out (by simp [span_Through.j0])
   | succ kj5 =>
    have H := HA.out
    clear HA
    simp only [span_Through.j0] at H
    by_cases c11 : x27_5 = true
    ·subst c11
     have H1 : (some (([] : List (S133)), 12)) = some (r1, r2) := by rw [if_pos rfl] at H; exact H
     clear H
     have H := H1
     clear H1
     simp only [Option.some.injEq, Prod.mk.injEq] at H
     obtain ⟨rfl, rfl⟩ := H
     go_wp2
     go_ret2
     exact ⟨_, by first | rfl | (simp [errW_none, errW_some] <;> rfl) | (simp [*, errW_none, errW_some] <;> rfl), by first | exact Kd.R_nil _ _ _ _ _ | exact Kd.N_nil _ _ _ _ _ | exact Kd.V_nil _ _ _ _ _ | exact Kd.Q_nil _ _ _ _ _ | exact Kd.S_nil _ _ _ _ _, by repeat (first | (with_reducible first | exact HB.out | apply below_alloc | apply pw_below_drewN | apply below_drew1) | exact HB.out)⟩
    ·replace c11 := Bool.eq_false_iff.mpr c11
     subst c11
     have H1 : (if (l0.length : Int) > 0 then (if 0 ≤ (wrap64 ((l0.length : Int) - 1)) then (if (wrap64 ((l0.length : Int) - 1)) < (l0.length : Int) then (if ((rd_T133 l0 (wrap64 ((l0.length : Int) - 1))).f1) > a1 then (if (wrap64 (((rd_T133 l0 (wrap64 ((l0.length : Int) - 1))).f1) + a2)) > 1048576 then (some (([] : List (S133)), 24)) else (span_Through.j1 kj5 l0 a1 a2)) else (span_Through.j1 kj5 l0 a1 a2)) else (none)) else (none)) else (span_Through.j1 kj5 l0 a1 a2)) = some (r1, r2) := by rw [if_neg (show ¬ (false = true) by decide)] at H; exact H
     clear H
     have H := H1
     clear H1
     have HC12 := Aside0.mk H
     clear H
     go_upto_if 30 with (fail)
     go_cut [] (fun wc => ∃ (kq : Nat), Aside0 (span_Through.j1 kq l0 a1 a2 = some (r1, r2)) ∧ Aside0 (kq ≤ kj5) ∧ Aside0 (Below w.heap.size w wc))
     case first =>
      have H := HC12.out
      clear HC12
      by_cases c13 : (l0.length : Int) > 0
      ·rw [if_pos c13] at H
       have c13b0 : decide (0 < (l0.length : Int)) = true := decide_eq_true c13
       have c13b1 : decide (0 < l0.length) = true := decide_eq_true (by omega)
       clear c13
       (first | rw [c13b0] | rw [c13b1] | (simp only [i64_w, i32_w]; rw [c13b0]) | skip)
       obtain ⟨ji14, hji14⟩ : ∃ j_ : Int, (wrap64 ((l0.length : Int) - 1)) = j_ := ⟨_, rfl⟩
       replace H : (if 0 ≤ (ji14) then (if (ji14) < (l0.length : Int) then (if ((rd_T133 l0 (ji14)).f1) > a1 then (if (wrap64 (((rd_T133 l0 (ji14)).f1) + a2)) > 1048576 then (some (([] : List (S133)), 24)) else (span_Through.j1 kj5 l0 a1 a2)) else (span_Through.j1 kj5 l0 a1 a2)) else (none)) else (none)) = some (r1, r2) := by first | (rw [hji14] at H; exact H) | (simp only [hji14] at H ⊢; exact H)
       have hji14w : (IntKind.i64.wrap ((l0.length : Int) - 1)) = ji14 := (i64_w _).trans hji14
       by_cases c15 : 0 ≤ (ji14)
       ·rw [if_pos c15] at H
        have c15b0 : decide (0 ≤ (ji14)) = true := decide_eq_true c15
        clear c15
        by_cases c16 : (ji14) < (l0.length : Int)
        ·rw [if_pos c16] at H
         have c16b0 : decide ((ji14) < (l0.length : Int)) = true := decide_eq_true c16
         clear c16
         by_cases c17 : ((rd_T133 l0 (ji14)).f1) > a1
         ·rw [if_pos c17] at H
          have c17b0 : decide (a1 < ((rd_T133 l0 (ji14)).f1)) = true := decide_eq_true c17
          clear c17
          by_cases c18 : (wrap64 (((rd_T133 l0 (ji14)).f1) + a2)) > 1048576
          ·rw [if_pos c18] at H
           have c18b0 : decide (1048576 < (wrap64 (((rd_T133 l0 (ji14)).f1) + a2))) = true := decide_eq_true c18
           clear c18
           simp only [Option.some.injEq, Prod.mk.injEq] at H
           obtain ⟨rfl, rfl⟩ := H
           have p377 : 0 ≤ ((ji14) : Int) := of_decide_eq_true (by first | (with_reducible assumption) | assumption)
           have q377 : (ji14) < (l0.length : Int) := of_decide_eq_true (by first | (with_reducible assumption) | assumption)
           obtain ⟨ad377, e377, hx377_0, hx377_1⟩ := at_T133 HR0.out (ji14) p377 q377
           cases e377
           replace hx377_0 := (HB.out.cell (World.block_lt_of_cell? w _ hx377_0)).trans hx377_0
           replace hx377_1 := (HB.out.cell (World.block_lt_of_cell? w _ hx377_1)).trans hx377_1
           replace p377 := eq_true p377
           replace q377 := eq_true q377
           go_wp2
           go_ret2
           exact ⟨_, by first | rfl | (simp [errW_none, errW_some] <;> rfl) | (simp only [← hji14]; first | rfl | (simp [errW_none, errW_some] <;> rfl)) | (simp [*, errW_none, errW_some] <;> rfl), by first | exact Kd.R_nil _ _ _ _ _ | exact Kd.N_nil _ _ _ _ _ | exact Kd.V_nil _ _ _ _ _ | exact Kd.Q_nil _ _ _ _ _ | exact Kd.S_nil _ _ _ _ _, by repeat (first | (with_reducible first | exact HB.out | apply below_alloc | apply pw_below_drewN | apply below_drew1) | exact HB.out)⟩
          ·rw [if_neg c18] at H
           have c18b0 : decide (1048576 < (wrap64 (((rd_T133 l0 (ji14)).f1) + a2))) = false := decide_eq_false c18
           clear c18
           have H' := Aside0.mk H
           clear H
           have p377 : 0 ≤ ((ji14) : Int) := of_decide_eq_true (by first | (with_reducible assumption) | assumption)
           have q377 : (ji14) < (l0.length : Int) := of_decide_eq_true (by first | (with_reducible assumption) | assumption)
           obtain ⟨ad377, e377, hx377_0, hx377_1⟩ := at_T133 HR0.out (ji14) p377 q377
           cases e377
           replace hx377_0 := (HB.out.cell (World.block_lt_of_cell? w _ hx377_0)).trans hx377_0
           replace hx377_1 := (HB.out.cell (World.block_lt_of_cell? w _ hx377_1)).trans hx377_1
           replace p377 := eq_true p377
           replace q377 := eq_true q377
           go_wp2
           go_meet
           case rel => exact ⟨_, H', ⟨by have := HJ5.out; first | omega | exact Nat.le_refl _⟩, ⟨by repeat (first | (with_reducible first | exact HB.out | apply below_alloc | apply pw_below_drewN | apply below_drew1) | exact HB.out)⟩⟩
         ·rw [if_neg c17] at H
          have c17b0 : decide (a1 < ((rd_T133 l0 (ji14)).f1)) = false := decide_eq_false c17
          clear c17
          have H' := Aside0.mk H
          clear H
          have p377 : 0 ≤ ((ji14) : Int) := of_decide_eq_true (by first | (with_reducible assumption) | assumption)
          have q377 : (ji14) < (l0.length : Int) := of_decide_eq_true (by first | (with_reducible assumption) | assumption)
          obtain ⟨ad377, e377, hx377_0, hx377_1⟩ := at_T133 HR0.out (ji14) p377 q377
          cases e377
          replace hx377_0 := (HB.out.cell (World.block_lt_of_cell? w _ hx377_0)).trans hx377_0
          replace hx377_1 := (HB.out.cell (World.block_lt_of_cell? w _ hx377_1)).trans hx377_1
          replace p377 := eq_true p377
          replace q377 := eq_true q377
          go_wp2
          go_meet
          case rel => exact ⟨_, H', ⟨by have := HJ5.out; first | omega | exact Nat.le_refl _⟩, ⟨by repeat (first | (with_reducible first | exact HB.out | apply below_alloc | apply pw_below_drewN | apply below_drew1) | exact HB.out)⟩⟩
        ·rw [if_neg c16] at H
         exact absurd H (by simp)
       ·rw [if_neg c15] at H
        exact absurd H (by simp)
      ·rw [if_neg c13] at H
       have c13b0 : decide (0 < (l0.length : Int)) = false := decide_eq_false c13
       have c13b1 : decide (0 < l0.length) = false := decide_eq_false (by omega)
       clear c13
       (first | rw [c13b0] | rw [c13b1] | (simp only [i64_w, i32_w]; rw [c13b0]) | skip)
       have H' := Aside0.mk H
       clear H
       go_wp2
       go_meet
       case rel => exact ⟨_, H', ⟨by have := HJ5.out; first | omega | exact Nat.le_refl _⟩, ⟨by repeat (first | (with_reducible first | exact HB.out | apply below_alloc | apply pw_below_drewN | apply below_drew1) | exact HB.out)⟩⟩
     case rest =>
      clear HC12
      try clear c1
      try clear p2
      try clear c3
      try clear p3
      try clear q3
      try clear hx3
      try clear c5
      try clear c5b0
      try clear c5b1
      try clear p6
      try clear c9
      try clear c11
      try clear c13
      try clear c13b0
      try clear c13b1
      try clear c15
      try clear c15b0
      try clear c16
      try clear c16b0
      try clear c17
      try clear c17b0
      try clear c18
      try clear c18b0
      try clear hx377_0
      try clear hx377_1
      try clear p2
      try clear p377
      try clear q377
      obtain ⟨kq, HA, HJ11, HB⟩ := hcut
      cases kq with
      | zero => exact absurd HA.out (by simp [span_Through.j1])
      | succ kj11 =>
       have H := HA.out
       clear HA
       simp only [span_Through.j1] at H
       have H' := Aside0.mk H
       clear H
       go_wp2
       go_loopg [11, 49] kj11 (fun kq v11 v49 w' => ∃ (x11_3 : List (S133)) (x49_3 : Int), v49 = .int .i64 x49_3 ∧ Aside0 (span_Through.l0 kq a1 a2 x11_3 l0 (l0.length : Int) x49_3 = some (r1, r2)) ∧ Aside0 (kq ≤ kj11) ∧ Aside0 (Kd.R k133 133 w' w.heap.size (fun _ => True) v11 x11_3) ∧ Aside0 (Below w.heap.size w w'))
       case atStart => exact ⟨(([] : List (S133))), (0), (by first | rfl | (simp; done) | (simp [*]; done)), H', ⟨Nat.le_refl _⟩, ⟨by first | exact Kd.R_nil _ _ _ _ _ | exact Kd.N_nil _ _ _ _ _ | exact Kd.V_nil _ _ _ _ _ | exact Kd.Q_nil _ _ _ _ _ | exact Kd.S_nil _ _ _ _ _⟩, ⟨by repeat (first | (with_reducible first | exact HB.out | apply below_alloc | apply pw_below_drewN | apply below_drew1) | exact HB.out)⟩⟩
       case round =>
        clear H'
        try clear c1
        try clear p2
        try clear c3
        try clear p3
        try clear q3
        try clear hx3
        try clear c5
        try clear c5b0
        try clear c5b1
        try clear p6
        try clear c9
        try clear c11
        try clear c13
        try clear c13b0
        try clear c13b1
        try clear c15
        try clear c15b0
        try clear c16
        try clear c16b0
        try clear c17
        try clear c17b0
        try clear c18
        try clear c18b0
        try clear hx377_0
        try clear hx377_1
        try clear p2
        try clear p3
        try clear p377
        try clear p6
        try clear q3
        try clear q377
        obtain ⟨x11_3, x49_3, rfl, HA, HK3, HO_11, HB⟩ := hrel
        cases gk with
        | zero => exact absurd HA.out (by simp [span_Through.l0])
        | succ k3 =>
         have H := HA.out
         clear HA
         simp only [span_Through.l0] at H
         by_cases c19 : x49_3 < (l0.length : Int)
         ·rw [if_pos c19] at H
          have c19b0 : decide (x49_3 < (l0.length : Int)) = true := decide_eq_true c19
          clear c19
          by_cases c20 : 0 ≤ x49_3
          ·rw [if_pos c20] at H
           have c20b0 : decide (0 ≤ x49_3) = true := decide_eq_true c20
           clear c20
           by_cases c21 : x49_3 < (l0.length : Int)
           ·rw [if_pos c21] at H
            have c21b0 : decide (x49_3 < (l0.length : Int)) = true := decide_eq_true c21
            clear c21
            obtain ⟨ji22, hji22⟩ : ∃ j_ : Int, (mn ((rd_T133 l0 x49_3).f1) a1) = j_ := ⟨_, rfl⟩
            replace H : ((span_add.f x11_3 ((rd_T133 l0 x49_3).f0) (ji22)).bind fun t380 => ((span_add.f t380 (wrap64 ((mx ((rd_T133 l0 x49_3).f0) a1) + a2)) (wrap64 (((rd_T133 l0 x49_3).f1) + a2))).bind fun t383 => (span_Through.l0 k3 a1 a2 t383 l0 (l0.length : Int) (wrap64 (x49_3 + 1))))) = some (r1, r2) := by first | (rw [hji22] at H; exact H) | (simp only [hji22] at H ⊢; exact H)
            have hji22_ : (if a1 < ((rd_T133 l0 x49_3).f1) then a1 else ((rd_T133 l0 x49_3).f1)) = ji22 := hji22
            replace H := Option.bind_eq_some_iff.mp H
            obtain ⟨t380, A230, H⟩ := H
            replace H : ((span_add.f t380 (wrap64 ((mx ((rd_T133 l0 x49_3).f0) a1) + a2)) (wrap64 (((rd_T133 l0 x49_3).f1) + a2))).bind fun t383 => (span_Through.l0 k3 a1 a2 t383 l0 (l0.length : Int) (wrap64 (x49_3 + 1)))) = some (r1, r2) := H
            have A23 := Aside0.mk A230
            clear A230
            obtain ⟨ji24, hji24⟩ : ∃ j_ : Int, (mx ((rd_T133 l0 x49_3).f0) a1) = j_ := ⟨_, rfl⟩
            replace H : ((span_add.f t380 (wrap64 ((ji24) + a2)) (wrap64 (((rd_T133 l0 x49_3).f1) + a2))).bind fun t383 => (span_Through.l0 k3 a1 a2 t383 l0 (l0.length : Int) (wrap64 (x49_3 + 1)))) = some (r1, r2) := by first | (rw [hji24] at H; exact H) | (simp only [hji24] at H ⊢; exact H)
            (try rw [hji24] at A23)
            have hji24_ : (if ((rd_T133 l0 x49_3).f0) < a1 then a1 else ((rd_T133 l0 x49_3).f0)) = ji24 := hji24
            replace H := Option.bind_eq_some_iff.mp H
            obtain ⟨t383, A250, H⟩ := H
            replace H : (span_Through.l0 k3 a1 a2 t383 l0 (l0.length : Int) (wrap64 (x49_3 + 1))) = some (r1, r2) := H
            have A25 := Aside0.mk A250
            clear A250
            have H' := Aside0.mk H
            clear H
            have p378 : 0 ≤ (x49_3 : Int) := of_decide_eq_true (by first | (with_reducible assumption) | assumption)
            have q378 : x49_3 < (l0.length : Int) := of_decide_eq_true (by first | (with_reducible assumption) | assumption)
            obtain ⟨ad378, e378, hx378_0, hx378_1⟩ := at_T133 HR0.out x49_3 p378 q378
            cases e378
            replace hx378_0 := (HB.out.cell (World.block_lt_of_cell? w _ hx378_0)).trans hx378_0
            replace hx378_1 := (HB.out.cell (World.block_lt_of_cell? w _ hx378_1)).trans hx378_1
            replace p378 := eq_true p378
            replace q378 := eq_true q378
            go_wp2_with (first | ((with_reducible refine gate_dst (N := 13) rfl ?_); refine box_event ?hg (N := 13) ?hd (cs := #[.int .i64 0, .int .i64 0]) (t := 133) ?hr ?_; (case hd => rfl); (case hg => rfl); (case hr => first | (go_simp; done) | (go_simp; rfl)); intro gb379 hg w26 hbox hb; have n0_ := Aside0.mk (Kd.R_below (Kd.R_elderB (by (with_reducible repeat (first | apply Kd.R_alloc | apply Kd.R_drewN | apply Kd.R_drew)); exact HO_11.out) gb379 (Nat.le_of_eq hg.symm)) hb); have n1_ := Aside0.mk (below_step (by repeat (first | (with_reducible first | exact HB.out | apply below_alloc | apply pw_below_drewN | apply below_drew1) | exact HB.out)) hb); have n2_ := Aside0.mk (hbox); have n3_ := Aside0.mk ((by rw [hg]; exact (below_size (by repeat (first | (with_reducible first | exact HB.out | apply below_alloc | apply pw_below_drewN | apply below_drew1) | exact HB.out))) : w.heap.size ≤ gb379)); have n4_ := Aside0.mk ((by rw [hg]; exact (below_size (by repeat (first | (with_reducible first | exact HB.out | apply below_alloc | apply pw_below_drewN | apply below_drew1) | exact HB.out))) : w.heap.size ≤ gb379)); clear HO_11; clear HB; have HO_11 := n0_; have HB := n1_; have BK379 := n2_; have GW379 := n3_; have GE379 := n4_; clear n0_ n1_ n2_ n3_ n4_; clear hb hbox hg; have hcz27_0 : w26.cell? ⟨gb379, 0, none⟩ = some (.int .i64 0) := (blk_cell BK379.out 0).trans rfl; have hcz27_1 : w26.cell? ⟨gb379, 1, none⟩ = some (.int .i64 0) := (blk_cell BK379.out 1).trans rfl; have hfz27_0 := blk_frozen BK379.out 0; have hfz27_1 := blk_frozen BK379.out 1) | ((with_reducible refine gate_store (t := 133) (p := 13) rfl ?_); refine store_event (t := 133) (p := 13) (v := ?vo_w28) (w1 := ((w26.setCell ⟨gb379, 0, none⟩ (.int .i64 ((rd_T133 l0 x49_3).f0))).setCell ⟨gb379, 1, none⟩ (.int .i64 ((rd_T133 l0 x49_3).f1)))) ?hg ?ho ?hn ?hr ?_; (case ho => rfl); (case hg => rfl); (case hn => rfl); (case hr => first | (go_simp; done) | (go_simp; rfl)); intro w28 hw; have n0_ : Aside0 (Kd.R k133 133 w28 w.heap.size (fun k_ => k_ ≠ gb379) u11 x11_3) := ⟨(by rw [hw]; exact (by (with_reducible repeat (first | apply Kd.R_alloc | apply Kd.R_drewN | apply Kd.R_drew)); exact Kd.R_mono (Kd.R_far (p := ⟨gb379, 1, none⟩) (Kd.R_far (p := ⟨gb379, 0, none⟩) (Kd.R_mono HO_11.out (fun k_ hk => (⟨hk, hk.2⟩ : _ ∧ k_ ≠ gb379))) (fun _ hk => hk.2) (.int .i64 ((rd_T133 l0 x49_3).f0))) (fun _ hk => hk.2) (.int .i64 ((rd_T133 l0 x49_3).f1))) (fun _ hk => hk.1.2)))⟩; have n1_ : Aside0 (w28.heap[gb379]? = some (.cells #[.int .i64 ((rd_T133 l0 x49_3).f0), .int .i64 ((rd_T133 l0 x49_3).f1)] 133 (0, 0))) := ⟨(by rw [hw]; exact (by (with_reducible repeat (first | refine blk_drewN ?_ _ | refine blk_drew ?_ | refine blk_alloc ?_ _)); refine blk_put (cs := #[.int .i64 ((rd_T133 l0 x49_3).f0), .int .i64 0]) ?_ 1 _ rfl; (with_reducible repeat (first | refine blk_drewN ?_ _ | refine blk_drew ?_ | refine blk_alloc ?_ _)); refine blk_put (cs := #[.int .i64 0, .int .i64 0]) ?_ 0 _ rfl; (with_reducible repeat (first | refine blk_drewN ?_ _ | refine blk_drew ?_ | refine blk_alloc ?_ _)); exact BK379.out))⟩; have n2_ : Aside0 (Below w.heap.size w w28) := ⟨(by rw [hw]; exact (by repeat (first | (with_reducible first | exact HB.out | apply below_alloc | apply pw_below_drewN | apply below_drew1 | refine below_set ?_ GE379.out) | exact HB.out)))⟩; clear hw; clear HO_11; clear BK379; clear HB; have HO_11 := n0_; have BK379 := n1_; have HB := n2_; clear n0_ n1_ n2_; have hcz29_0 : w28.cell? ⟨gb379, 0, none⟩ = some (.int .i64 ((rd_T133 l0 x49_3).f0)) := (blk_cell BK379.out 0).trans rfl; have hcz29_1 : w28.cell? ⟨gb379, 1, none⟩ = some (.int .i64 ((rd_T133 l0 x49_3).f1)) := (blk_cell BK379.out 1).trans rfl; have hfz29_0 := blk_frozen BK379.out 0; have hfz29_1 := blk_frozen BK379.out 1; obtain ⟨Ao30, co30, eo30⟩ := Kd.R_slice HO_11.out; subst eo30) | ((with_reducible refine gate_callee (f := 92) rfl ?_); refine goesL_ (some 60) rfl rfl Tryd.func92 (by kernel_rfl) rfl #[.slice Ao30 x11_3.length co30, .int .i64 ((rd_T133 l0 x49_3).f0), .int .i64 ji22] rfl (by (try simp only [List.map_toArray, List.map_cons, List.map_nil]); first | done | (simp only [hji22]; rfl) | rfl | (simp only [List.length_drop, List.length_take]; rfl)) ?_; (with_reducible refine (span_add.calls (fun k_ => some k_ = (.slice Ao30 x11_3.length co30 : Value).ownBlock) (.slice Ao30 x11_3.length co30) x11_3 ((rd_T133 l0 x49_3).f0) ji22 t380 w _ ?side1 ?side2 A23.out).mono ?_); (case side1 => repeat (first | (with_reducible first | exact HB.out | apply below_alloc | apply pw_below_drewN | apply below_drew1 | refine below_set ?_ GE379.out) | exact HB.out)); (case side2 => exact Kd.R_tight rfl HO_11.out); rintro e w31 ⟨v381, rfl, ho0, hb, hkp⟩; refine ⟨_, rfl, ?_⟩; have n0_ := Aside0.mk (blk_kept (by (with_reducible repeat (first | refine blk_drewN ?_ _ | refine blk_drew ?_ | refine blk_alloc ?_ _)); exact BK379.out) hkp (fun hs_ => (fun e_ => (Kd.R_away HO_11.out (fun _ hk => hk)) e_) hs_)); have n1_ := Aside0.mk (Kd.R_mono (ok' := fun k_ => k_ ≠ gb379) ho0 (fun k_ hk_ => Or.elim hk_ (fun hs_ => fun e_ => (Kd.R_away HO_11.out (fun _ hk => hk)) (by rw [← e_]; exact hs_)) (fun hn_ => (Kd.freshB (g := gb379) (o := .cells #[.int .i64 ((rd_T133 l0 x49_3).f0), .int .i64 ((rd_T133 l0 x49_3).f1)] 133 (0, 0)) (by (with_reducible repeat (first | refine blk_drewN ?_ _ | refine blk_drew ?_ | refine blk_alloc ?_ _)); exact BK379.out) k_ hn_)))); have n2_ := Aside0.mk (hb); clear BK379; clear HB; clear HO_11; have BK379 := n0_; have HO382 := n1_; have HB := n2_; clear n0_ n1_ n2_; (try clear hb); (try clear hkp); (try clear ho0); have hcz32_0 : w31.cell? ⟨gb379, 0, none⟩ = some (.int .i64 ((rd_T133 l0 x49_3).f0)) := (blk_cell BK379.out 0).trans rfl; have hcz32_1 : w31.cell? ⟨gb379, 1, none⟩ = some (.int .i64 ((rd_T133 l0 x49_3).f1)) := (blk_cell BK379.out 1).trans rfl; have hfz32_0 := blk_frozen BK379.out 0; have hfz32_1 := blk_frozen BK379.out 1; obtain ⟨Ao33, co33, eo33⟩ := Kd.R_slice HO382.out; subst eo33) | ((with_reducible refine gate_callee (f := 92) rfl ?_); refine goesL_ (some 72) rfl rfl Tryd.func92 (by kernel_rfl) rfl #[.slice Ao33 t380.length co33, .int .i64 (wrap64 ((ji24) + a2)), .int .i64 (wrap64 (((rd_T133 l0 x49_3).f1) + a2))] rfl (by (try simp only [List.map_toArray, List.map_cons, List.map_nil]); first | done | (simp only [hji24]; rfl) | rfl | (simp only [List.length_drop, List.length_take]; rfl)) ?_; (with_reducible refine (span_add.calls (fun k_ => some k_ = (.slice Ao33 t380.length co33 : Value).ownBlock) (.slice Ao33 t380.length co33) t380 (wrap64 ((ji24) + a2)) (wrap64 (((rd_T133 l0 x49_3).f1) + a2)) t383 w _ ?side1 ?side2 A25.out).mono ?_); (case side1 => repeat (first | (with_reducible first | exact HB.out | apply below_alloc | apply pw_below_drewN | apply below_drew1 | refine below_set ?_ GE379.out) | exact HB.out)); (case side2 => exact Kd.R_tight rfl HO382.out); rintro e w34 ⟨v384, rfl, ho0, hb, hkp⟩; refine ⟨_, rfl, ?_⟩; have n0_ := Aside0.mk (blk_kept (by (with_reducible repeat (first | refine blk_drewN ?_ _ | refine blk_drew ?_ | refine blk_alloc ?_ _)); exact BK379.out) hkp (fun hs_ => (fun e_ => (Kd.R_away HO382.out (fun _ hk => hk)) e_) hs_)); have n1_ := Aside0.mk (Kd.R_mono (ok' := fun k_ => k_ ≠ gb379) ho0 (fun k_ hk_ => Or.elim hk_ (fun hs_ => fun e_ => (Kd.R_away HO382.out (fun _ hk => hk)) (by rw [← e_]; exact hs_)) (fun hn_ => (Kd.freshB (g := gb379) (o := .cells #[.int .i64 ((rd_T133 l0 x49_3).f0), .int .i64 ((rd_T133 l0 x49_3).f1)] 133 (0, 0)) (by (with_reducible repeat (first | refine blk_drewN ?_ _ | refine blk_drew ?_ | refine blk_alloc ?_ _)); exact BK379.out) k_ hn_)))); have n2_ := Aside0.mk (hb); clear BK379; clear HB; clear HO382; have BK379 := n0_; have HO385 := n1_; have HB := n2_; clear n0_ n1_ n2_; (try clear hb); (try clear hkp); (try clear ho0)))
            go_roundg k3
            case measure => have := HJ5.out; have := HJ11.out; have := HK3.out; omega
            case rel => exact ⟨(t383), (wrap64 (x49_3 + 1)), (by first | rfl | (simp; done) | (simp [*]; done)), H', ⟨by have := HJ5.out; have := HJ11.out; have := HK3.out; omega⟩, ⟨by (with_reducible repeat (first | apply Kd.R_alloc | apply Kd.R_drewN | apply Kd.R_drew)); exact Kd.R_mono HO385.out (fun _ hk => trivial)⟩, ⟨by repeat (first | (with_reducible first | exact HB.out | apply below_alloc | apply pw_below_drewN | apply below_drew1 | refine below_set ?_ GE379.out) | exact HB.out)⟩⟩
           ·rw [if_neg c21] at H
            exact absurd H (by simp)
          ·rw [if_neg c20] at H
           exact absurd H (by simp)
         ·rw [if_neg c19] at H
          have c19b0 : decide (x49_3 < (l0.length : Int)) = false := decide_eq_false c19
          clear c19
          replace H := Option.bind_eq_some_iff.mp H
          obtain ⟨⟨t386, t389⟩, A350, H⟩ := H
          replace H : (some (t386, t389)) = some (r1, r2) := H
          have A35 := Aside0.mk A350
          clear A350
          simp only [Option.some.injEq, Prod.mk.injEq] at H
          obtain ⟨rfl, rfl⟩ := H
          obtain ⟨Ao36, co36, eo36⟩ := Kd.R_slice HO_11.out
          subst eo36
          go_wp2_with (first | ((with_reducible refine gate_callee (f := 93) rfl ?_); refine goesL_ (some 75) rfl rfl Tryd.func93 (by kernel_rfl) rfl #[.slice Ao36 x11_3.length co36] rfl (by (try simp only [List.map_toArray, List.map_cons, List.map_nil]); first | done | rfl | (simp only [List.length_drop, List.length_take]; rfl)) ?_; (with_reducible refine (span_bounded.calls (fun k_ => some k_ = (.slice Ao36 x11_3.length co36 : Value).ownBlock) (.slice Ao36 x11_3.length co36) x11_3 t386 t389 w _ ?side1 ?side2 A35.out).mono ?_); (case side1 => repeat (first | (with_reducible first | exact HB.out | apply below_alloc | apply pw_below_drewN | apply below_drew1) | exact HB.out)); (case side2 => exact Kd.R_tight rfl HO_11.out); rintro e w37 ⟨v387, rfl, ho0, hb, hkp⟩; refine ⟨_, rfl, ?_⟩; have n0_ := Aside0.mk (Kd.R_mono (ok' := fun k_ => True) ho0 (fun k_ hk_ => trivial)); have n1_ := Aside0.mk (hb); clear HB; clear HO_11; have HO388 := n0_; have HB := n1_; clear n0_ n1_; (try clear hb); (try clear hkp); (try clear ho0)))
          go_ret2
          exact ⟨_, by first | rfl | (simp [errW_none, errW_some] <;> rfl) | (simp [*, errW_none, errW_some] <;> rfl), by (with_reducible repeat (first | apply Kd.R_alloc | apply Kd.R_drewN | apply Kd.R_drew)); exact HO388.out, by repeat (first | (with_reducible first | exact HB.out | apply below_alloc | apply pw_below_drewN | apply below_drew1) | exact HB.out)⟩
 ·rw [if_neg c5] at H
  have c5b0 : (t374 == 0) = false := beq_eq_false_iff_ne.mpr c5
  have c5b1 : (t374 != 0) = true := bne_iff_ne.mpr c5
  simp only [Option.some.injEq, Prod.mk.injEq] at H
  obtain ⟨rfl, rfl⟩ := H
  go_enter Tryd.func51, Tryd.ntmps51
  go_wp2_with (first | ((with_reducible refine gate_callee (f := 37) rfl ?_); refine goesL_ (some 16) rfl rfl Tryd.func37 (by kernel_rfl) rfl #[.slice A0 l0.length c0] rfl (by (try simp only [List.map_toArray, List.map_cons, List.map_nil]); first | done | rfl | (simp only [List.length_drop, List.length_take]; rfl)) ?_; (with_reducible refine (span_Check.calls k _ _ l0 t373 t374 _ ?side1 ?side2 A4.out).mono ?_); (case side1 => repeat (first | exact HR0.out | (with_reducible refine Kd.C_alloc ?_ _) | (with_reducible refine Kd.C_drewN ?_ _) | (with_reducible refine Kd.C_drew ?_))); (case side2 => exact HC0.out); rintro e w38 ⟨rfl, hb⟩; refine ⟨_, rfl, ?_⟩; have n0_ := Aside0.mk (below_step (by repeat (first | (with_reducible first | exact HB.out | apply below_alloc | apply pw_below_drewN | apply below_drew1) | exact HB.out)) hb); clear HB; have HB := n0_; clear n0_; (try clear hb); (try clear hb2); (try clear hk); (try clear hi)))
  go_ret2
  exact ⟨_, by first | rfl | (simp [errW_none, errW_some] <;> rfl) | (simp [*, errW_none, errW_some] <;> rfl), by first | exact Kd.R_nil _ _ _ _ _ | exact Kd.N_nil _ _ _ _ _ | exact Kd.V_nil _ _ _ _ _ | exact Kd.Q_nil _ _ _ _ _ | exact Kd.S_nil _ _ _ _ _, by repeat (first | (with_reducible first | exact HB.out | apply below_alloc | apply pw_below_drewN | apply below_drew1) | exact HB.out)⟩
end Go.Proofs.YteeigokkafcaaaaDoor.Pr
end
section
namespace Go.Proofs.YteeigokkafcaaaaDoor.SpanFns
open Go.RowKit Go.Proofs.YteeigokkafcaaaaDoorW.PrintWords Go.Proofs.YteeigokkafcaaaaDoorW.PrintMore Go.Proofs.YteeigokkafcaaaaDoor.Pr Go.Proofs.YteeigokkafcaaaaDoor.SpanMath
theorem w64 {n : Int} (h0 : -9223372036854775808 ≤ n) (h1 : n ≤ 9223372036854775807) : wrap64 n = n := IntWalk.wrap64_in n ⟨h0, h1⟩
theorem rd_at (pre : List S133) (r : S133) (suf : List S133) : rd_T133 (pre ++ r :: suf) (pre.length : Int) = r := by simp [rd_T133]
theorem rd_last (i : List S133) (r : S133) (suf : List S133) : rd_T133 (i ++ [r] ++ suf) ((i ++ [r]).length - 1 : Int) = r := by
  have : (((i ++ [r]).length : Int) - 1).toNat = i.length := by simp only [List.length_append, List.length_singleton]; omega
  unfold rd_T133
  rw [this, List.append_assoc]
  simp
instance decS : DecidableEq S133 := fun r s => decidable_of_iff (r.f0 = s.f0 ∧ r.f1 = s.f1) ⟨fun h => s_ext h.1 h.2, fun h => by rw [h]; exact ⟨rfl, rfl⟩⟩
abbrev Short (l : List S133) : Prop := l.length < 8796093022208
theorem add_f {l : List S133} {lo hi : Int} (h : Short l) : span_add.f l lo hi = some (addS l lo hi) := by
  unfold span_add.f
  by_cases c : lo ≥ hi
  · rw [if_pos c, addS_empty (by omega)]
  · rw [if_neg c]
    rcases concat_cases l with rfl | ⟨i, r, rfl⟩
    · rw [if_neg (by simp), if_pos (by simp), addS_nil (by omega)]
      rfl
    · have hl : (i ++ [r]).length = i.length + 1 := by simp
      have h' : (i ++ [r]).length < 8796093022208 := h
      have e1 : wrap64 (((i ++ [r]).length : Int) - 1) = ((i ++ [r]).length : Int) - 1 := w64 (by omega) (by omega)
      have e2 : rd_T133 (i ++ [r]) (((i ++ [r]).length : Int) - 1) = r := by have := rd_last i r []; rwa [List.append_nil] at this
      have e3 : (((i ++ [r]).length : Int) - 1).toNat = i.length := by omega
      rw [e1, e2, e3, if_pos (by omega), if_pos (by omega), if_pos (by omega)]
      by_cases c2 : r.f1 ≥ lo
      · rw [if_pos c2, addS_join (by omega) c2]
        simp [mx]
      · rw [if_neg c2, if_pos h', addS_more (by omega) (by omega)]
theorem bounded_f (l : List S133) : span_bounded.f l = some (if l.length > 32768 then [] else l, if l.length > 32768 then 21 else 0) := by
  unfold span_bounded.f
  by_cases c : l.length > 32768
  · rw [if_pos (by omega), if_pos c, if_pos c]
  · rw [if_neg (by omega), if_neg c, if_neg c]
theorem outside_f (n : Int) : span_outside.f n = some (decide (n < 0 ∨ n > 1048576)) := by
  unfold span_outside.f
  by_cases c : n < 0
  · rw [if_pos c]; simp [c]
  · rw [if_neg c]; simp [c]
def chk (i : Int) (prev : Option S133) : List S133 → Int × Int
  | [] => (0, 0)
  | r :: l => if r.f0 < 0 ∨ r.f1 > 1048576 ∨ r.f0 ≥ r.f1 then (i, 20) else if prev.any (fun p => decide (r.f0 ≤ p.f1)) = true then (i, 22) else chk (i + 1) (some r) l
def checkS (l : List S133) : Int × Int := if l.length > 32768 then (32768, 21) else chk 0 none l
theorem getLast_snoc (pre : List S133) (r : S133) : (pre ++ [r]).getLast? = some r := by simp
theorem Check_l0 : ∀ (suf pre : List S133) (k : Nat), Short (pre ++ suf) → 2 * suf.length + 1 ≤ k →
    span_Check.l0 k (pre ++ suf) (pre ++ suf) ((pre ++ suf).length : Int) (pre.length : Int) = some (chk pre.length pre.getLast? suf)
  | [], pre, k, hs, hk => by
    obtain ⟨k, rfl⟩ : ∃ m, k = m + 1 := ⟨k - 1, by omega⟩
    simp only [span_Check.l0]
    rw [if_neg (by simp)]
    rfl
  | r :: suf, pre, k, hs, hk => by
    simp only [List.length_cons] at hk
    obtain ⟨k, rfl⟩ : ∃ m, k = m + 2 := ⟨k - 2, by omega⟩
    have hl : (pre ++ r :: suf).length = pre.length + 1 + suf.length := by simp; omega
    have hs' : (pre ++ r :: suf).length < 8796093022208 := hs
    simp only [span_Check.l0]
    rw [if_pos (by omega), if_pos (by omega), if_pos (by omega), rd_at]
    have ih := Check_l0 suf (pre ++ [r]) k (by rw [List.append_assoc]; exact hs) (by omega)
    rw [List.append_assoc, List.singleton_append] at ih
    have e1 : wrap64 ((pre.length : Int) + 1) = ((pre ++ [r]).length : Int) := by rw [w64 (by omega) (by omega)]; simp
    have key : ∀ b : Bool, (b = decide (r.f0 < 0 ∨ r.f1 > 1048576 ∨ r.f0 ≥ r.f1)) → span_Check.j1 (k + 1) (pre ++ r :: suf) (pre.length : Int) (pre ++ r :: suf) ((pre ++ r :: suf).length : Int) (pre.length : Int) b r.f0 r.f1 = some (chk pre.length pre.getLast? (r :: suf)) := by
      rintro b rfl
      simp only [span_Check.j1]
      rw [chk]
      by_cases c : r.f0 < 0 ∨ r.f1 > 1048576 ∨ r.f0 ≥ r.f1
      · rw [if_pos (by simpa using c), if_pos c]
      · rw [if_neg (by simpa using c), if_neg c]
        rcases concat_cases pre with rfl | ⟨i, p, rfl⟩
        · rw [if_neg (by simp), if_neg (by simp), e1, ih]
          simp
        · have e2 : wrap64 (((i ++ [p]).length : Int) - 1) = ((i ++ [p]).length : Int) - 1 := w64 (by omega) (by omega)
          have h1 : (i ++ [p]).length = i.length + 1 := by simp
          rw [if_pos (by omega), e2, if_pos (by omega), if_pos (by omega), rd_last i p (r :: suf), getLast_snoc]
          by_cases c2 : r.f0 ≤ p.f1
          · rw [if_pos c2, if_pos (by simpa using c2)]
          · rw [if_neg c2, if_neg (by simpa using c2), e1, ih, getLast_snoc, show ((i ++ [p] ++ [r]).length : Int) = ((i ++ [p]).length : Int) + 1 from by simp; omega]
    by_cases c1 : r.f0 < 0
    · rw [if_pos c1]
      exact key true (by simp [c1])
    · rw [if_neg c1]
      by_cases c2 : r.f1 > 1048576
      · rw [if_pos c2]
        exact key true (by simp [c2])
      · rw [if_neg c2]
        exact key _ (by simp [c1, c2])
theorem Check_f {l : List S133} (h : Short l) {k : Nat} (hk : 2 * l.length + 1 ≤ k) : span_Check.f k l = some (checkS l) := by
  unfold span_Check.f checkS
  by_cases c : l.length > 32768
  · rw [if_pos (by omega), if_pos c]
  · rw [if_neg (by omega), if_neg c]
    exact Check_l0 l [] k h hk
def Good (l : List S133) : Prop := l.length ≤ 32768 ∧ Nrm l ∧ ∀ r ∈ l, 0 ≤ r.f0 ∧ r.f1 ≤ 1048576
theorem Good.short {l : List S133} (h : Good l) : Short l := by have := h.1; show l.length < _; omega
theorem Good.nrm {l : List S133} (h : Good l) : Nrm l := h.2.1
theorem chk_ok : ∀ (l : List S133) (i : Int) (prev : Option S133), (chk i prev l).2 = 0 → chk i prev l = (0, 0) ∧ Nrm l ∧ (∀ r ∈ l, 0 ≤ r.f0 ∧ r.f1 ≤ 1048576) ∧ (∀ p, prev = some p → ∀ r ∈ l, p.f1 < r.f0)
  | [], i, prev, _ => ⟨rfl, nrm_nil, by simp, by simp⟩
  | r :: l, i, prev, h => by
    rw [chk] at h ⊢
    by_cases c : r.f0 < 0 ∨ r.f1 > 1048576 ∨ r.f0 ≥ r.f1
    · rw [if_pos c] at h; exact absurd h (by simp)
    · rw [if_neg c] at h ⊢
      by_cases c2 : prev.any (fun p => decide (r.f0 ≤ p.f1)) = true
      · rw [if_pos c2] at h; exact absurd h (by simp)
      · rw [if_neg c2] at h ⊢
        obtain ⟨h1, h2, h3, h4⟩ := chk_ok l (i + 1) (some r) h
        refine ⟨h1, nrm_cons.2 ⟨by omega, fun s hs => h4 r rfl s hs, h2⟩, fun s hs => ?_, fun p hp s hs => ?_⟩
        · rcases List.mem_cons.1 hs with rfl | hs
          · omega
          · exact h3 s hs
        · subst hp
          have hp' : ¬ r.f0 ≤ p.f1 := by simpa using c2
          rcases List.mem_cons.1 hs with rfl | hs
          · omega
          · have := h4 r rfl s hs
            omega
theorem chk_of : ∀ (l : List S133) (i : Int) (prev : Option S133), Nrm l → (∀ r ∈ l, 0 ≤ r.f0 ∧ r.f1 ≤ 1048576) → (∀ p, prev = some p → ∀ r ∈ l.head?, p.f1 < r.f0) → chk i prev l = (0, 0)
  | [], i, prev, _, _, _ => rfl
  | r :: l, i, prev, hn, hb, hp => by
    obtain ⟨h1, h2, h3⟩ := nrm_cons.1 hn
    have hr := hb r List.mem_cons_self
    rw [chk, if_neg (by omega), if_neg, chk_of l (i + 1) (some r) h3 (fun s hs => hb s (List.mem_cons_of_mem _ hs))]
    · intro p hp s hs
      injection hp with hp
      subst hp
      refine h2 s ?_
      cases l with
      | nil => simp at hs
      | cons y l => simp at hs; subst hs; exact List.mem_cons_self
    · cases prev with
      | none => simp
      | some p => have := hp p rfl r rfl; simpa using this
theorem checkS_good {l : List S133} : (checkS l).2 = 0 ↔ Good l := by
  unfold checkS Good
  by_cases c : l.length > 32768
  · rw [if_pos c]
    constructor
    · intro h; exact absurd h (by simp)
    · rintro ⟨h, _⟩; omega
  · rw [if_neg c]
    constructor
    · intro h
      obtain ⟨_, h2, h3, _⟩ := chk_ok l 0 none h
      exact ⟨by omega, h2, h3⟩
    · rintro ⟨_, h2, h3⟩
      rw [chk_of l 0 none h2 h3 (by simp)]
end Go.Proofs.YteeigokkafcaaaaDoor.SpanFns
end
section
namespace Go.Proofs.YteeigokkafcaaaaDoor.SpanFns
open Go.RowKit Go.Proofs.YteeigokkafcaaaaDoorW.PrintWords Go.Proofs.YteeigokkafcaaaaDoorW.PrintMore Go.Proofs.YteeigokkafcaaaaDoor.Pr Go.Proofs.YteeigokkafcaaaaDoor.SpanMath
def Small (l : List S133) : Prop := ∀ r ∈ l, 0 ≤ r.f0 ∧ r.f0 < r.f1 ∧ r.f1 ≤ 1048576
theorem Good.small {l : List S133} (h : Good l) : Small l := fun r hr => ⟨(h.2.2 r hr).1, h.2.1.2 r hr, (h.2.2 r hr).2⟩
theorem Small.tail {r : S133} {l : List S133} (h : Small (r :: l)) : Small l := fun s hs => h s (List.mem_cons_of_mem _ hs)
theorem e_succ (pre : List S133) (r : S133) (h : pre.length < 8796093022208) : wrap64 ((pre.length : Int) + 1) = ((pre ++ [r]).length : Int) := by rw [w64 (by omega) (by omega)]; simp
end Go.Proofs.YteeigokkafcaaaaDoor.SpanFns
end
section
namespace Go.Proofs.YteeigokkafcaaaaDoor.SpanFns
open Go.RowKit Go.Proofs.YteeigokkafcaaaaDoorW.PrintWords Go.Proofs.YteeigokkafcaaaaDoorW.PrintMore Go.Proofs.YteeigokkafcaaaaDoor.Pr Go.Proofs.YteeigokkafcaaaaDoor.SpanMath
def few (l : List S133) : List S133 × Int := if l.length > 32768 then ([], 21) else (l, 0)
theorem bounded_few (l : List S133) : ((span_bounded.f l).bind fun x => some (x.1, x.2)) = some (few l) := by
  rw [bounded_f]
  unfold few
  simp only [Option.bind_some]
  split <;> rfl
theorem add_short {l : List S133} {n : Nat} (lo hi : Int) (h : l.length ≤ n) (hn : n < 8796093022207) : (addS l lo hi).length ≤ n + 1 ∧ Short (addS l lo hi) := by
  have := addS_len l lo hi
  exact ⟨by omega, by show (addS l lo hi).length < _; omega⟩
theorem Through_l0 (c n : Int) (hc : 0 ≤ c ∧ c ≤ 1048576) (hn : 0 ≤ n ∧ n ≤ 1048576) : ∀ (suf pre acc : List S133) (k : Nat), (pre ++ suf).length ≤ 32768 → Small suf → acc.length ≤ 2 * pre.length → suf.length + 1 ≤ k →
    span_Through.l0 k c n acc (pre ++ suf) ((pre ++ suf).length : Int) (pre.length : Int) = some (few (adds acc (throughP c n suf)))
  | [], pre, acc, k, hl, hs, ha, hk => by
    obtain ⟨k, rfl⟩ : ∃ m, k = m + 1 := ⟨k - 1, by omega⟩
    simp only [span_Through.l0]
    rw [if_neg (by simp), bounded_few]
    rfl
  | r :: suf, pre, acc, k, hl, hs, ha, hk => by
    simp only [List.length_cons] at hk
    obtain ⟨k, rfl⟩ : ∃ m, k = m + 1 := ⟨k - 1, by omega⟩
    have hl1 : (pre ++ r :: suf).length = pre.length + 1 + suf.length := by simp; omega
    obtain ⟨r1, r2, r3⟩ := hs r List.mem_cons_self
    have hm : 0 ≤ mx r.f0 c ∧ mx r.f0 c ≤ 1048576 := by unfold mx; split <;> omega
    obtain ⟨a1, a2⟩ := add_short (l := acc) (n := 2 * pre.length) r.f0 (mn r.f1 c) ha (by omega)
    obtain ⟨b1, b2⟩ := add_short (l := addS acc r.f0 (mn r.f1 c)) (n := 2 * pre.length + 1) (mx r.f0 c + n) (r.f1 + n) a1 (by omega)
    simp only [span_Through.l0]
    rw [if_pos (by omega), if_pos (by omega), if_pos (by omega), rd_at, add_f (by show acc.length < _; omega)]
    simp only [Option.bind_some]
    rw [w64 (n := mx r.f0 c + n) (by omega) (by omega), w64 (n := r.f1 + n) (by omega) (by omega), add_f a2]
    simp only [Option.bind_some]
    rw [e_succ pre r (by omega)]
    have ih := Through_l0 c n hc hn suf (pre ++ [r]) (addS (addS acc r.f0 (mn r.f1 c)) (mx r.f0 c + n) (r.f1 + n)) k (by rw [List.append_assoc]; exact hl) hs.tail (by simp only [List.length_append, List.length_singleton]; omega) (by omega)
    rw [List.append_assoc, List.singleton_append] at ih
    rw [ih, throughP_cons, adds_cons, adds_cons]
    rfl
theorem rd_getLast {l : List S133} {r : S133} (h : l.getLast? = some r) : rd_T133 l ((l.length : Int) - 1) = r := by
  rcases concat_cases l with rfl | ⟨i, x, rfl⟩
  · simp at h
  · rw [getLast_snoc] at h
    injection h with h
    subst h
    have := rd_last i x []
    rwa [List.append_nil] at this
def grows (l : List S133) (c n : Int) : Bool := l.getLast?.any (fun r => decide (r.f1 > c ∧ r.f1 + n > 1048576))
def throughA (l : List S133) (c n : Int) : List S133 × Int :=
  if (checkS l).2 = 0 then (if (c < 0 ∨ c > 1048576) ∨ (n < 0 ∨ n > 1048576) then ([], 12) else if grows l c n = true then ([], 24) else few (throughS c n l)) else ([], (checkS l).2)
theorem Through_ev {l : List S133} (hs : Short l) (c n : Int) : Ev (fun k => span_Through.f k l c n) (throughA l c n) := by
  refine ⟨2 * l.length + 5, fun k hk => ?_⟩
  dsimp only
  unfold span_Through.f throughA
  rw [Check_f hs (by omega)]
  simp only [Option.bind_some]
  by_cases g : (checkS l).2 = 0
  · have h := checkS_good.1 g
    rw [if_pos g, if_pos g]
    have key : ∀ b : Bool, b = decide ((c < 0 ∨ c > 1048576) ∨ (n < 0 ∨ n > 1048576)) → span_Through.j0 k l c n b = some (if (c < 0 ∨ c > 1048576) ∨ (n < 0 ∨ n > 1048576) then ([], 12) else if grows l c n = true then ([], 24) else few (throughS c n l)) := by
      rintro b rfl
      obtain ⟨k, rfl⟩ : ∃ m, k = m + 3 := ⟨k - 3, by omega⟩
      simp only [span_Through.j0]
      by_cases c2 : (c < 0 ∨ c > 1048576) ∨ (n < 0 ∨ n > 1048576)
      · rw [if_pos (by simpa using c2), if_pos c2]
      · have hj1 : span_Through.j1 (k + 2) l c n = some (few (throughS c n l)) := by
          simp only [span_Through.j1]
          have := Through_l0 c n (by omega) (by omega) l [] [] (k + 1) h.1 h.small (by simp) (by omega)
          exact this
        rw [if_neg (by simpa using c2), if_neg c2, hj1]
        rcases concat_cases l with rfl | ⟨i, r, rfl⟩
        · rw [if_neg (by simp), if_neg (by simp [grows])]
        · have hlen : (i ++ [r]).length = i.length + 1 := by simp
          have hb := h.1
          obtain ⟨r1, r2, r3⟩ := h.small r (by simp)
          rw [if_pos (by omega), w64 (n := ((i ++ [r]).length : Int) - 1) (by omega) (by omega), if_pos (by omega), if_pos (by omega), rd_getLast (getLast_snoc i r), w64 (n := r.f1 + n) (by omega) (by omega)]
          unfold grows
          rw [getLast_snoc]
          by_cases c3 : r.f1 > c
          · rw [if_pos c3]
            by_cases c4 : r.f1 + n > 1048576
            · rw [if_pos c4, if_pos (by simp; omega)]
            · rw [if_neg c4, if_neg (by simp; omega)]
          · rw [if_neg c3, if_neg (by simp; omega)]
    rw [outside_f]
    simp only [Option.bind_some]
    by_cases c1 : c < 0 ∨ c > 1048576
    · rw [if_pos (by simpa using c1)]
      exact key true (by simp [c1])
    · rw [if_neg (by simpa using c1), outside_f]
      simp only [Option.bind_some]
      exact key _ (by simp [c1])
  · rw [if_neg g, if_neg g]
end Go.Proofs.YteeigokkafcaaaaDoor.SpanFns
end
section
namespace Go.Proofs.YteeigokkafcaaaaDoor.Pr
open Go.RowKit Go.Proofs.YteeigokkafcaaaaDoorW.PrintWords Go.Proofs.YteeigokkafcaaaaDoorW.PrintLast Go.Proofs.YteeigokkafcaaaaDoorW.PrintMore
attribute [local go_sem] max2_int min2_int max_two min_two max_three min_three max_four min_four
set_option linter.unusedVariables false
set_option linter.unusedSimpArgs false
open Go.Proofs.YteeigokkafcaaaaDoor.SpanMath
open Go.Proofs.YteeigokkafcaaaaDoor
def span_Make.l1 : Nat → List (S133) → List (S133) → Int → Int → Option ((List (S133)) × Int)
 | 0, _, _, _, _ => none
 | k + 1, x7, x43, x44, x45 => if x45 < x44 then (if 0 ≤ x45 then (if x45 < (x43.length : Int) then ((span_add.f x7 ((rd_T133 x43 x45).f0) ((rd_T133 x43 x45).f1)).bind fun t119 => (span_Make.l1 k t119 x43 x44 (wrap64 (x45 + 1)))) else (none)) else (none)) else ((span_bounded.f x7).bind fun bt122 => (some (bt122.1, bt122.2)))
def span_Make.srt (l : List S133) : List S133 := l.mergeSort (fun x y => decide (x.f0 ≤ y.f0))
def span_Make.fin (l : List S133) : Option ((List (S133)) × Int) := if l.length ≤ 32768 ∧ (∀ r ∈ l, 0 ≤ r.f0 ∧ r.f0 ≤ 1048576) then (span_bounded.f (adds [] (span_Make.srt l))).bind fun b => some (b.1, b.2) else none
def span_Make.l0 : Nat → List (S133) → List (S133) → Int → Int → Option ((List (S133)) × Int)
 | 0, _, _, _, _ => none
 | k + 1, x0, x13, x14, x15 => if x15 < x14 then (if 0 ≤ x15 then (if x15 < (x13.length : Int) then (if ((rd_T133 x13 x15).f0) < 0 then (some (([] : List (S133)), 20)) else (if ((rd_T133 x13 x15).f1) > 1048576 then (some (([] : List (S133)), 20)) else (if ((rd_T133 x13 x15).f0) > ((rd_T133 x13 x15).f1) then (some (([] : List (S133)), 20)) else (span_Make.l0 k x0 x13 x14 (wrap64 (x15 + 1)))))) else (none)) else (none)) else (if 0 ≤ (x0.length : Int) then (if ((x0.length : Int) : Int).toNat ≤ 17592186044416 then (span_Make.fin x0) else (none)) else (none))
def span_Make.f (l0 : List (S133)) : Option ((List (S133)) × Int) := if (l0.length : Int) > 32768 then (some (([] : List (S133)), 21)) else (span_Make.l0 (l0.length + 1) l0 l0 (l0.length : Int) 0)
theorem span_Make.srt_perm (l : List S133) : (span_Make.srt l).Perm l := List.mergeSort_perm _ _
theorem span_Make.srt_ris (l : List S133) : Ris (span_Make.srt l) := by
 have h := List.pairwise_mergeSort (le := fun x y : S133 => decide (x.f0 ≤ y.f0)) (fun a b c h1 h2 => by simp at *; omega) (fun a b => by simp; omega) l
 exact h.imp (fun h => of_decide_eq_true h)
theorem span_Make.adds_same {l m : List S133} (hp : l.Perm m) (hl : Ris l) (hm : Ris m) : adds [] l = adds [] m := by
 obtain ⟨a1, a2⟩ := adds_spec l [] nrm_nil hl.up (fun _ _ _ r hr => by simp at hr)
 obtain ⟨b1, b2⟩ := adds_spec m [] nrm_nil hm.up (fun _ _ _ r hr => by simp at hr)
 exact nrm_ext a1 b1 (fun q => by rw [a2, b2, mem_iff (fun x => hp.mem_iff) q])
theorem span_Make.l1_eq : ∀ (suf pre acc : List S133) (k : Nat), (pre ++ suf).length ≤ 32768 → acc.length ≤ pre.length → suf.length + 1 ≤ k →
  span_Make.l1 k acc (pre ++ suf) ((pre ++ suf).length : Int) (pre.length : Int) = (span_bounded.f (adds acc suf)).bind fun b => some (b.1, b.2)
 | [], pre, acc, k, hl, ha, hk => by
  obtain ⟨k, rfl⟩ : ∃ m, k = m + 1 := ⟨k - 1, by omega⟩
  simp only [span_Make.l1]
  rw [if_neg (by simp)]
  rfl
 | r :: suf, pre, acc, k, hl, ha, hk => by
  simp only [List.length_cons] at hk
  obtain ⟨k, rfl⟩ : ∃ m, k = m + 1 := ⟨k - 1, by omega⟩
  have hl1 : (pre ++ r :: suf).length = pre.length + 1 + suf.length := by simp; omega
  have hw : wrap64 ((pre.length : Int) + 1) = ((pre ++ [r]).length : Int) := by rw [SpanFns.w64 (by omega) (by omega)]; simp
  simp only [span_Make.l1]
  rw [if_pos (by omega), if_pos (by omega), if_pos (by omega), SpanFns.rd_at, SpanFns.add_f (by show acc.length < _; omega)]
  simp only [Option.bind_some]
  have := addS_len acc r.f0 r.f1
  have ih := span_Make.l1_eq suf (pre ++ [r]) (addS acc r.f0 r.f1) k (by rw [List.append_assoc]; exact hl) (by simp; omega) (by omega)
  rw [List.append_assoc, List.singleton_append] at ih
  rw [hw, ih, adds_cons]
theorem span_Make.fin_open {l : List S133} {r : List S133 × Int} (h : span_Make.fin l = some r) : l.length ≤ 32768 ∧ (∀ r ∈ l, 0 ≤ r.f0 ∧ r.f0 ≤ 1048576) ∧ ∀ zs : List S133, zs.Perm l → zs.Pairwise (fun p q => p.f0 ≤ q.f0) → span_Make.l1 (zs.length + 1) [] zs (zs.length : Int) 0 = some r := by
 unfold span_Make.fin at h
 split at h
 ·rename_i g
  refine ⟨g.1, g.2, fun zs hp hs => ?_⟩
  have := span_Make.l1_eq zs [] [] (zs.length + 1) (by rw [List.nil_append, hp.length_eq]; exact g.1) (Nat.le_refl _) (Nat.le_refl _)
  rw [List.nil_append] at this
  rw [show (0 : Int) = (([] : List S133).length : Int) from rfl, this, span_Make.adds_same (hp.trans (span_Make.srt_perm l).symm) hs (span_Make.srt_ris l), h]
 ·exact absurd h (by simp)
end Go.Proofs.YteeigokkafcaaaaDoor.Pr
end
section
namespace Go.Proofs.YteeigokkafcaaaaDoor.SpanFns
open Go.RowKit Go.Proofs.YteeigokkafcaaaaDoorW.PrintWords Go.Proofs.YteeigokkafcaaaaDoorW.PrintMore Go.Proofs.YteeigokkafcaaaaDoor.Pr Go.Proofs.YteeigokkafcaaaaDoor.SpanMath
def Part (r : S133) : Prop := 0 ≤ r.f0 ∧ r.f0 ≤ r.f1 ∧ r.f1 ≤ 1048576
instance (r : S133) : Decidable (Part r) := by unfold Part; infer_instance
def ofParts (l : List S133) : List S133 := adds [] (span_Make.srt l)
theorem ofParts_spec (l : List S133) : Nrm (ofParts l) ∧ ∀ q, mem (ofParts l) q ↔ mem l q := by
  obtain ⟨h1, h2⟩ := adds_spec (span_Make.srt l) [] nrm_nil (span_Make.srt_ris l).up (fun _ _ _ r hr => by simp at hr)
  exact ⟨h1, fun q => by rw [ofParts, h2, mem_nil, false_or, mem_iff (fun x => (span_Make.srt_perm l).mem_iff) q]⟩
theorem ofParts_len (l : List S133) : (ofParts l).length ≤ l.length := by
  have h := adds_len (span_Make.srt l) []
  rw [(span_Make.srt_perm l).length_eq] at h
  simpa [ofParts] using h
def makeA (l : List S133) : List S133 × Int := if l.length > 32768 then ([], 21) else if ∀ r ∈ l, Part r then (ofParts l, 0) else ([], 20)
theorem makeA_good {l : List S133} (hl : l.length ≤ 32768) (h : ∀ r ∈ l, Part r) : makeA l = (ofParts l, 0) := by
  unfold makeA
  rw [if_neg (by omega), if_pos h]
theorem few_ofParts {l : List S133} (hl : l.length ≤ 32768) : few (ofParts l) = (ofParts l, 0) := by
  have := ofParts_len l
  unfold few
  rw [if_neg (by omega)]
theorem Make_l0 (l : List S133) (hl : l.length ≤ 32768) : ∀ (suf pre : List S133) (k : Nat), pre ++ suf = l → (∀ r ∈ pre, Part r) → suf.length + 1 ≤ k →
    span_Make.l0 k l l (l.length : Int) (pre.length : Int) = some (if ∀ r ∈ l, Part r then (ofParts l, 0) else ([], 20))
  | [], pre, k, e, hp, hk => by
    obtain ⟨k, rfl⟩ : ∃ m, k = m + 1 := ⟨k - 1, by omega⟩
    simp only [List.append_nil] at e
    subst e
    simp only [span_Make.l0]
    rw [if_neg (by omega), if_pos (by omega), if_pos (by omega), if_pos hp]
    unfold span_Make.fin
    rw [if_pos ⟨hl, fun r hr => ⟨(hp r hr).1, by have := hp r hr; unfold Part at this; omega⟩⟩]
    show ((span_bounded.f (ofParts pre)).bind fun b => some (b.1, b.2)) = _
    rw [bounded_few, few_ofParts hl]
  | r :: suf, pre, k, e, hp, hk => by
    simp only [List.length_cons] at hk
    obtain ⟨k, rfl⟩ : ∃ m, k = m + 1 := ⟨k - 1, by omega⟩
    have hl1 : l.length = pre.length + 1 + suf.length := by rw [← e]; simp; omega
    have hr : r ∈ l := by rw [← e]; simp
    have hrd : rd_T133 l (pre.length : Int) = r := by rw [← e]; exact rd_at pre r suf
    simp only [span_Make.l0]
    rw [if_pos (by omega), if_pos (by omega), if_pos (by omega), hrd]
    by_cases c : Part r
    · obtain ⟨c1, c2, c3⟩ := c
      rw [if_neg (by omega), if_neg (by omega), if_neg (by omega), e_succ pre r (by omega)]
      exact Make_l0 l hl suf (pre ++ [r]) k (by rw [List.append_assoc]; exact e) (fun s hs => by
        rcases List.mem_append.1 hs with hs | hs
        · exact hp s hs
        · have : s = r := by simpa using hs
          rw [this]; exact ⟨c1, c2, c3⟩) (by omega)
    · rw [if_neg (show ¬ ∀ r ∈ l, Part r from fun h => c (h r hr))]
      by_cases c1 : r.f0 < 0
      · rw [if_pos c1]
      · rw [if_neg c1]
        by_cases c2 : r.f1 > 1048576
        · rw [if_pos c2]
        · rw [if_neg c2, if_pos (by unfold Part at c; omega)]
theorem Make_f (l : List S133) : span_Make.f l = some (makeA l) := by
  unfold span_Make.f makeA
  by_cases c : l.length > 32768
  · rw [if_pos (by omega), if_pos c]
  · rw [if_neg (by omega), if_neg c]
    exact Make_l0 l (by omega) l [] _ rfl (by simp) (Nat.le_refl _)
end Go.Proofs.YteeigokkafcaaaaDoor.SpanFns
end
section
namespace Go.Proofs.YteeigokkafcaaaaDoor.SpanFns
open Go.RowKit Go.Proofs.YteeigokkafcaaaaDoorW.PrintWords Go.Proofs.YteeigokkafcaaaaDoorW.PrintMore Go.Proofs.YteeigokkafcaaaaDoor.Pr Go.Proofs.YteeigokkafcaaaaDoor.SpanMath
theorem nrm_get {l : List S133} (h : Nrm l) {i j : Nat} (hj : j < l.length) (hij : i < j) : (l[i]'(by omega)).f1 < l[j].f0 :=
  List.pairwise_iff_getElem.1 h.1 i j (by omega) hj hij
end Go.Proofs.YteeigokkafcaaaaDoor.SpanFns
end
section
namespace Go.Proofs.YteeigokkafcaaaaDoor.SpanFns
open Go.RowKit Go.Proofs.YteeigokkafcaaaaDoorW.PrintWords Go.Proofs.YteeigokkafcaaaaDoorW.PrintMore Go.Proofs.YteeigokkafcaaaaDoor.Pr Go.Proofs.YteeigokkafcaaaaDoor.SpanMath
def los (l : List S133) : List Int := l.map (fun r => r.f0)
theorem grows_iff {l : List S133} (h : Nrm l) (c n : Int) : grows l c n = true ↔ ∃ r ∈ l, r.f1 > c ∧ r.f1 + n > 1048576 := by
  rcases concat_cases l with rfl | ⟨i, x, rfl⟩
  · simp [grows]
  · obtain ⟨_, h2, h3⟩ := nrm_append.1 h
    have hx := h2.2 x (by simp)
    unfold grows
    rw [getLast_snoc]
    simp only [Option.any_some, decide_eq_true_iff]
    constructor
    · exact fun g => ⟨x, by simp, g⟩
    · rintro ⟨r, hr, g1, g2⟩
      rcases List.mem_append.1 hr with hr | hr
      · have := h3 r hr x (by simp)
        omega
      · have : r = x := by simpa using hr
        subst this
        exact ⟨g1, g2⟩
end Go.Proofs.YteeigokkafcaaaaDoor.SpanFns
end
section
namespace Go.Proofs.YteeigokkafcaaaaDoor.SpanFns
open Go.RowKit Go.Proofs.YteeigokkafcaaaaDoorW.PrintWords Go.Proofs.YteeigokkafcaaaaDoorW.PrintMore Go.Proofs.YteeigokkafcaaaaDoor.Pr Go.Proofs.YteeigokkafcaaaaDoor.SpanMath
theorem rise_len : ∀ (n : Nat) (l m : List Int), m.length ≤ n → l.Pairwise (· < ·) → (∀ x ∈ l, x ∈ m) → l.length ≤ m.length
  | _, [], m, _, _, _ => Nat.zero_le _
  | 0, x :: l, m, hm, _, h => by
    have := h x List.mem_cons_self
    have e0 : m = [] := List.eq_nil_of_length_eq_zero (by omega)
    rw [e0] at this
    simp at this
  | n + 1, x :: l, m, hm, hl, h => by
    have hx := h x List.mem_cons_self
    have hpos : 0 < m.length := List.length_pos_of_mem hx
    have hl' := List.pairwise_cons.1 hl
    have e := List.length_erase_of_mem hx
    have := rise_len n l (m.erase x) (by omega) hl'.2 (fun y hy => (List.mem_erase_of_ne (by have := hl'.1 y hy; omega)).2 (h y (List.mem_cons_of_mem _ hy)))
    simp only [List.length_cons]
    omega
theorem nrm_los : ∀ {l : List S133}, Nrm l → (los l).Pairwise (· < ·)
  | [], _ => List.Pairwise.nil
  | r :: l, h => by
    obtain ⟨h1, h2, h3⟩ := nrm_cons.1 h
    refine List.pairwise_cons.2 ⟨fun x hx => ?_, nrm_los h3⟩
    obtain ⟨s, hs, rfl⟩ := List.mem_map.1 hx
    have := h2 s hs
    show r.f0 < s.f0
    omega
theorem mem_start {l : List S133} (_ : Nrm l) {q : Int} (h1 : mem l q) (h2 : ¬ mem l (q - 1)) : q ∈ los l := by
  obtain ⟨r, hr, a, b⟩ := h1
  have : r.f0 = q := by
    apply Decidable.byContradiction
    intro c
    exact h2 ⟨r, hr, by omega, by omega⟩
  rw [← this]
  exact List.mem_map.2 ⟨r, hr, rfl⟩
theorem start_mem {l : List S133} (h : Nrm l) {q : Int} (hq : q ∈ los l) : mem l q ∧ ¬ mem l (q - 1) := by
  obtain ⟨r, hr, rfl⟩ := List.mem_map.1 hq
  refine ⟨⟨r, hr, Int.le_refl _, h.2 r hr⟩, ?_⟩
  rintro ⟨s, hs, a, b⟩
  obtain ⟨i, hi, rfl⟩ := List.getElem_of_mem hr
  obtain ⟨j, hj, rfl⟩ := List.getElem_of_mem hs
  rcases Nat.lt_trichotomy i j with c | c | c
  · have := nrm_get h hj c
    have := h.2 _ hr
    omega
  · subst c
    omega
  · have := nrm_get h hi c
    omega
theorem los_len (l : List S133) : (los l).length = l.length := by simp [los]
theorem len_by_starts {l : List S133} (h : Nrm l) (m : List Int) (hm : ∀ q, mem l q → ¬ mem l (q - 1) → q ∈ m) : l.length ≤ m.length := by
  rw [← los_len l]
  exact rise_len _ _ m (Nat.le_refl _) (nrm_los h) (fun q hq => by obtain ⟨a, b⟩ := start_mem h hq; exact hm q a b)
theorem through_len {c n : Int} (hn : 0 ≤ n) {a : List S133} (ha : Nrm a) : (throughS c n a).length ≤ a.length + 1 ∧ ((∀ q, mem a q → 0 ≤ q) → c ≤ 0 → (throughS c n a).length ≤ a.length) := by
  obtain ⟨h1, h2⟩ := throughS_spec (c := c) hn ha
  have key : ∀ q, mem (throughS c n a) q → ¬ mem (throughS c n a) (q - 1) → (q = c + n ∧ mem a c) ∨ q ∈ (los a).map (fun x => if x < c then x else x + n) := by
    intro q m1 m2
    rw [h2] at m1 m2
    rcases m1 with ⟨c1, m1⟩ | ⟨c1, m1⟩
    · have := mem_start ha m1 (fun e => m2 (.inl ⟨by omega, e⟩))
      exact .inr (List.mem_map.2 ⟨q, this, by rw [if_pos c1]⟩)
    · by_cases c2 : q = c + n
      · left
        refine ⟨c2, ?_⟩
        rw [c2, show c + n - n = c from by omega] at m1
        exact m1
      · have := mem_start ha m1 (fun e => m2 (.inr ⟨by omega, by rw [show q - 1 - n = q - n - 1 from by omega]; exact e⟩))
        exact .inr (List.mem_map.2 ⟨q - n, this, by rw [if_neg (by omega)]; omega⟩)
  constructor
  · have := len_by_starts h1 ((c + n) :: (los a).map (fun x => if x < c then x else x + n)) (fun q m1 m2 => by
      rcases key q m1 m2 with k | k
      · rw [k.1]; exact List.mem_cons_self
      · exact List.mem_cons_of_mem _ k)
    simpa [los_len] using this
  · intro hz hc
    have := len_by_starts h1 ((los a).map (fun x => if x < c then x else x + n)) (fun q m1 m2 => by
      rcases key q m1 m2 with k | k
      · have hs := mem_start ha k.2 (fun e => by have := hz _ e; omega)
        exact List.mem_map.2 ⟨c, hs, by rw [if_neg (by omega)]; exact k.1.symm⟩
      · exact k)
    simpa [los_len] using this
theorem mem_bd {l : List S133} (h : Good l) {q : Int} (hq : mem l q) : 0 ≤ q ∧ q < 1048576 := by
  obtain ⟨r, hr, a, b⟩ := hq
  have := h.2.2 r hr
  omega
theorem good_of {l : List S133} (hl : l.length ≤ 32768) (hn : Nrm l) (h : ∀ q, mem l q → 0 ≤ q ∧ q < 1048576) : Good l := by
  refine ⟨hl, hn, fun r hr => ?_⟩
  have hlt := hn.2 r hr
  have a := h r.f0 ⟨r, hr, Int.le_refl _, hlt⟩
  have b := h (r.f1 - 1) ⟨r, hr, by omega, by omega⟩
  omega
theorem few_ok {l : List S133} (h : l.length ≤ 32768) : few l = (l, 0) := by unfold few; rw [if_neg (by omega)]
end Go.Proofs.YteeigokkafcaaaaDoor.SpanFns
end
section
namespace Go.Proofs.YteeigokkafcaaaaDoor.SpanSort
open Go.RowKit Go.Proofs.YteeigokkafcaaaaDoorW.PrintWords Go.Proofs.YteeigokkafcaaaaDoorW.PrintLast Go.Proofs.YteeigokkafcaaaaDoorW.PrintMore Go.Proofs.YteeigokkafcaaaaDoor.Pr
def enc36 (r : S133) : List Value := [.int .i64 r.f0, .int .i64 r.f1]
def flat36 (l : List S133) : List Value := l.flatMap enc36
theorem flat36_len (l : List S133) : (flat36 l).length = l.length * 2 := by
  induction l with
  | nil => rfl
  | cons r l ih => simp only [flat36, List.flatMap_cons, List.length_append, List.length_cons] at ih ⊢; rw [ih]; simp [enc36]; omega
theorem flat36_cons (r : S133) (l : List S133) : flat36 (r :: l) = enc36 r ++ flat36 l := rfl
theorem flat36_one : ∀ (l : List S133), ∀ u ∈ flat36 l, u.oneCell' = true
  | [], u, h => by simp [flat36] at h
  | r :: l, u, h => by
    rw [flat36_cons] at h
    rcases List.mem_append.1 h with h | h
    · simp [enc36] at h
      rcases h with rfl | rfl <;> rfl
    · exact flat36_one l u h
theorem flat36_get (l : List S133) (j : Nat) (hj : j < l.length) : (flat36 l)[j * 2]? = some (.int .i64 (l[j]).f0) ∧ (flat36 l)[j * 2 + 1]? = some (.int .i64 (l[j]).f1) := by
  induction l generalizing j with
  | nil => simp at hj
  | cons r l ih =>
    cases j with
    | zero => exact ⟨rfl, rfl⟩
    | succ j =>
      have h := ih j (by simpa using hj)
      rw [flat36_cons]
      have e : (j + 1) * 2 = j * 2 + 2 := by omega
      rw [e]
      exact h
theorem reps_flat {R : S133 → List Value → Prop} (hR : ∀ r, R r (enc36 r)) : ∀ l : List S133, Reps R 2 l (flat36 l)
  | [] => Reps.none R 2
  | r :: l => by
    have h1 : Reps R 2 [r] (enc36 r) := by
      have := (Reps.none R 2).snoc (hR r) rfl
      simpa using this
    exact Kd.reps_append (ps := [r]) h1 (reps_flat hR l)
theorem flat_reps {R : S133 → List Value → Prop} (hR : ∀ r cs, R r cs → cs = enc36 r) : ∀ (l : List S133) (inner : List Value), Reps R 2 l inner → inner = flat36 l
  | [], inner, h => by
    have := h.1
    simp at this
    rw [this]; rfl
  | r :: l, inner, h => by
    have h0 := hR _ _ (h.2 0 r rfl)
    have h1 : Reps R 2 l (inner.drop 2) := Kd.reps_drop (m := 1) h
    rw [flat36_cons, ← flat_reps hR l _ h1, ← h0]
    simp
theorem row_of_R {W : World} {base : Nat} {ok : Nat → Prop} {v : Value} {xs : List S133} (h : Kd.R k133 133 W base ok v xs) : (∀ k, v.ownBlock = some k → ok k) ∧ W.ownsRow base 133 2 v xs.length (flat36 xs) := by
  obtain ⟨h0, inner, ho, hr⟩ := h
  refine ⟨h0, ?_⟩
  rw [← flat_reps (fun r cs h => k133_openM h) xs inner hr]
  exact ho
theorem R_of_row {W : World} {base : Nat} {ok : Nat → Prop} {v : Value} {xs : List S133} (h0 : ∀ k, v.ownBlock = some k → ok k) (h : W.ownsRow base 133 2 v xs.length (flat36 xs)) : Kd.R k133 133 W base ok v xs :=
  ⟨h0, flat36 xs, h, reps_flat (fun r => k133_mkM _ _ _ r) xs⟩
theorem run_copy_cells2 {P : Program} (w : World) (dT sT ty elem : TypeId) (b o n dCap : Nat) (a : Addr) (sCap : Nat) (cs : List Value)
    (hu : P.underlying dT = some (.slice elem)) (hs : (P.info? elem).map (·.size) = some 2) (hn : cs.length = n * 2)
    (hsrc : ∀ j v, cs[j]? = some v → w.cell? (a.add j) = some v) (hc : ∀ j, j < cs.length → (w.cell? ⟨b, o + j, none⟩).isSome = true) (hf : ∀ j, j < cs.length → w.frozen? ⟨b, o + j, none⟩ = false) (h1 : ∀ v ∈ cs, v.oneCell' = true) :
    (Builtin.copy_ #[dT, sT] ty #[.slice (some ⟨b, o, none⟩) n dCap, .slice (some a) n sCap]).run P w = .ok (goInt n) (w.setCells b o cs) := by
  have hl := run_loadCells_list (P := P) w a cs hsrc
  have hst := run_storeCells_cells (P := P) b o cs 0 w (by simpa using hc) (by simpa using hf) h1
  cases hq : P.info? elem with
  | none => simp [hq] at hs
  | some i =>
    have hi : i.size = 2 := by simpa [hq] using hs
    simp [Builtin.copy_, run_underlying hu, Builtin.lenOf, Builtin.firstCells, sizeOf, typeInfo, hq, hi, ← hn, hl, hst]
theorem run_copy_zero {P : Program} (w : World) (dT sT ty elem : TypeId) (b : Addr) (a : Option Addr) (dCap sCap : Nat) (hu : P.underlying dT = some (.slice elem)) (hs : (P.info? elem).map (·.size) = some 2) :
    (Builtin.copy_ #[dT, sT] ty #[.slice (some b) 0 dCap, .slice a 0 sCap]).run P w = .ok (goInt 0) w := by
  have hl : ∀ (x : Addr), (loadCells x 0).run P w = .ok #[] w := fun x => by simpa using run_loadCells_list (P := P) w x [] (by simp)
  cases hq : P.info? elem with
  | none => simp [hq] at hs
  | some i =>
    cases a <;> simp [Builtin.copy_, run_underlying hu, Builtin.lenOf, Builtin.firstCells, sizeOf, typeInfo, hq, storeCells, hl]
section
variable {P : Program} {ops : Array Oper} {rest : List Oper} {o : Oper} {a : Act} {Q : Exit → Act → World → Prop}
theorem R_copy36 {w0 W : World} (base : Nat) (hgd : o.guard = none) (s x : Operand) (t t' : TypeId)
    (ho : o.op = .call { callee := .builtin .copy, args := #[s, x], argTypes := #[t, t'] }) (ht : P.underlying t = some (.slice 133)) (hinfo : (P.info? 133).map (·.size) = some 2)
    (v : Value) (xs ys : List S133) (A : Option Addr) (c : Nat) (ok : Nat → Prop) (hs : a.eval s = v) (hx : a.eval x = .slice A ys.length c) (hlen : xs.length = ys.length) (hb : ∃ b, v.ownBlock = some b)
    (HO : Kd.R k133 133 W base ok v xs) (HR : Kd.C k133 W A ys.length ys) (HB : Below base w0 W) (hbase : base ≤ W.heap.size)
    (h : ∀ w1, Kd.R k133 133 w1 base ok v ys → Below base w0 w1 → wpList P ops Q rest (a.put o.dst (.int .i64 (ys.length : Int))) w1) : wpList P ops Q (o :: rest) a W := by
  obtain ⟨h0, hown⟩ := row_of_R HO
  have fin : ∀ w1, (Builtin.copy_ #[t, t'] o.type #[v, .slice A ys.length c]).run P W = .ok (goInt (ys.length : Int)) w1 → Kd.R k133 133 w1 base ok v ys → W.grownBy w1 v.ownBlock → wpList P ops Q (o :: rest) a W := by
    intro w1 hr hrow hg
    refine wpList_plain hgd fun K hK => ?_
    unfold Oper.wp execOp
    simp only [ho, resolve, invoke, builtin, Sem.run_bind, Sem.run_pure, Result.andThen_ok, List.map_toArray, List.map_cons, List.map_nil, hs, hx, hr]
    exact hK _ _ (h w1 hrow (HB.grown hg hbase (own_base hown)))
  rcases hown.2 with ⟨hv, _⟩ | ⟨g, cap, cur, hv, hbg, hh, hnc, hcm, hcs, htake⟩
  · obtain ⟨b, hb⟩ := hb
    rw [hv] at hb
    simp [Value.ownBlock] at hb
  rcases Nat.eq_zero_or_pos ys.length with hz | hp
  · have hy : ys = [] := List.eq_nil_of_length_eq_zero hz
    have hxz : xs = [] := List.eq_nil_of_length_eq_zero (by omega)
    refine fin W ?_ (by rw [hy, ← hxz]; exact HO) (World.grownBy.refl W _)
    have := run_copy_zero (P := P) W t t' o.type 133 ⟨g, 0, none⟩ A cap c ht hinfo
    rw [hv, hz, show xs.length = 0 from by omega]
    exact this
  · obtain ⟨ad, hA, _⟩ := HR.2.2 hp
    rw [hA] at HR
    obtain ⟨inner, hnr, hnc2⟩ := ReadsRow.inner_ HR
    rw [flat_reps (fun r cs h => k133_open h) ys inner hnr] at hnc2
    have hle : ys.length * 2 ≤ cur.size := by rw [hcs]; omega
    have hr := run_copy_cells2 (P := P) W t t' o.type 133 g 0 ys.length cap ad c (flat36 ys) ht hinfo (flat36_len ys) hnc2
      (fun j hj => by rw [flat36_len] at hj; simp [World.cell?, hh]; omega) (fun j _ => blk_frozen hh _) (flat36_one ys)
    obtain ⟨cur', h3, h4, h5⟩ := setCells_row (flat36 ys) 0 W cur hh (by rw [flat36_len]; omega)
    obtain ⟨s1, s2, s3, s4⟩ := setCells_same g (flat36 ys) 0 W
    refine fin _ (by rw [hv, hA, hlen]; exact hr) (R_of_row h0 ?_) ⟨s1, s2, s3, by rw [s4]; exact Nat.le_refl _, fun k _ hk => setCells_far _ _ k (fun he => hk (by rw [hv, he]; simp [Value.ownBlock]))⟩
    refine ⟨flat36_len ys, .inr ⟨g, cap, cur', by rw [hv, hlen], hbg, h3, by omega, hcm, by rw [h4, hcs], ?_⟩⟩
    rw [h5, List.take_zero, List.nil_append, ← flat36_len ys]
    simp
end
theorem info36s : (Tryd.prog.info? 133).map (·.size) = some 2 := by kernel_rfl
theorem closure48 (x y : S133) (hx : 0 ≤ x.f0 ∧ x.f0 ≤ 1048576) (hy : 0 ≤ y.f0 ∧ y.f0 ≤ 1048576) (W : World) : Calls Tryd.prog 91 #[.agg #[.int .i64 x.f0, .int .i64 x.f1], .agg #[.int .i64 y.f0, .int .i64 y.f1]] W fun e w' => e = .returned (.int .i64 (x.f0 - y.f0)) ∧ ∃ q os', w' = Go.Sort.grow (W.drewN q) os' := by
  have hw : wrap64 (x.f0 - y.f0) = x.f0 - y.f0 := IntWalk.wrap64_in _ ⟨by omega, by omega⟩
  go_enter Tryd.func91, Tryd.ntmps91
  go_wp2
  go_ret
  refine ⟨?_, 0, _, by rw [Go.Sort.alloc_eq_grow, Go.Sort.alloc_eq_grow, Go.Sort.grow_grow]; rfl⟩
  rfl
end Go.Proofs.YteeigokkafcaaaaDoor.SpanSort
end
section
namespace Go.Proofs
open Go.Shelf
def Tryd.sortR_ren : Go.Shelf.Ren := ⟨fun | 6 => 90 | 15 => 124 | 14 => 123 | 28 => 142 | 29 => 143 | 20 => 134 | 21 => 135 | 22 => 136 | 23 => 137 | 24 => 138 | 25 => 139 | 26 => 140 | 27 => 141 | 46 => 148 | 47 => 149 | 48 => 150 | 49 => 151 | 50 => 152 | 57 => 153 | n => n, fun | 22 => 61 | 24 => 133 | 25 => 145 | 3 => 3 | 39 => 180 | 0 => 0 | 53 => 188 | 55 => 204 | 4 => 4 | 46 => 196 | 45 => 195 | 50 => 200 | 5 => 5 | 9 => 9 | 66 => 207 | 70 => 211 | 76 => 213 | 77 => 170 | n => n, fun | n => n⟩
theorem Tryd.sortR : Go.Proofs.SlLaysF0.n6 Tryd.prog Tryd.sortR_ren := {
  mixed := by kernel_rfl
  f6 := ⟨Tryd.f90.name, by decide, Tryd.func90.trans (congrArg some (by kernel_rfl))⟩
  f14 := ⟨Tryd.f123.name, by decide, Tryd.func123.trans (congrArg some (by kernel_rfl))⟩
  f15 := Tryd.func124.trans (congrArg some (by kernel_rfl))
  f20 := ⟨Tryd.f134.name, by decide, Tryd.func134.trans (congrArg some (by kernel_rfl))⟩
  f21 := ⟨Tryd.f135.name, by decide, Tryd.func135.trans (congrArg some (by kernel_rfl))⟩
  f22 := ⟨Tryd.f136.name, by decide, Tryd.func136.trans (congrArg some (by kernel_rfl))⟩
  f23 := ⟨Tryd.f137.name, by decide, Tryd.func137.trans (congrArg some (by kernel_rfl))⟩
  f24 := ⟨Tryd.f138.name, by decide, Tryd.func138.trans (congrArg some (by kernel_rfl))⟩
  f25 := ⟨Tryd.f139.name, by decide, Tryd.func139.trans (congrArg some (by kernel_rfl))⟩
  f26 := ⟨Tryd.f140.name, by decide, Tryd.func140.trans (congrArg some (by kernel_rfl))⟩
  f27 := ⟨Tryd.f141.name, by decide, Tryd.func141.trans (congrArg some (by kernel_rfl))⟩
  f28 := Tryd.func142.trans (congrArg some (by kernel_rfl))
  f29 := Tryd.func143.trans (congrArg some (by kernel_rfl))
  f46 := ⟨Tryd.f148.name, by decide, Tryd.func148.trans (congrArg some (by kernel_rfl))⟩
  f47 := Tryd.func149.trans (congrArg some (by kernel_rfl))
  f48 := Tryd.func150.trans (congrArg some (by kernel_rfl))
  f49 := ⟨Tryd.f151.name, by decide, Tryd.func151.trans (congrArg some (by kernel_rfl))⟩
  f50 := ⟨Tryd.f152.name, by decide, Tryd.func152.trans (congrArg some (by kernel_rfl))⟩
  f57 := ⟨Tryd.f153.name, by decide, Tryd.func153.trans (congrArg some (by kernel_rfl))⟩
  t0 := Tryd.underlying0
  a0 := Tryd.isAgg0
  z0 := Tryd.sizeOf0
  v0 := Tryd.zeroValue0
  t3 := Tryd.underlying3
  a3 := Tryd.isAgg3
  z3 := Tryd.sizeOf3
  v3 := Tryd.zeroValue3
  t4 := Tryd.underlying4
  a4 := Tryd.isAgg4
  z4 := Tryd.sizeOf4
  v4 := Tryd.zeroValue4
  t5 := Tryd.underlying5
  a5 := Tryd.isAgg5
  z5 := Tryd.sizeOf5
  v5 := Tryd.zeroValue5
  t9 := Tryd.underlying9
  a9 := Tryd.isAgg9
  z9 := Tryd.sizeOf9
  v9 := Tryd.zeroValue9
  t22 := Tryd.underlying61
  a22 := Tryd.isAgg61
  z22 := Tryd.sizeOf61
  v22 := Tryd.zeroValue61
  t25 := Tryd.underlying145
  a25 := Tryd.isAgg145
  z25 := Tryd.sizeOf145
  v25 := Tryd.zeroValue145
  t39 := Tryd.underlying180
  a39 := Tryd.isAgg180
  z39 := Tryd.sizeOf180
  v39 := Tryd.zeroValue180
  t45 := Tryd.underlying195
  a45 := Tryd.isAgg195
  z45 := Tryd.sizeOf195
  v45 := Tryd.zeroValue195
  t46 := Tryd.underlying196
  a46 := Tryd.isAgg196
  z46 := Tryd.sizeOf196
  v46 := Tryd.zeroValue196
  t50 := Tryd.underlying200
  a50 := Tryd.isAgg200
  z50 := Tryd.sizeOf200
  v50 := Tryd.zeroValue200
  t53 := Tryd.underlying188
  a53 := Tryd.isAgg188
  z53 := Tryd.sizeOf188
  v53 := Tryd.zeroValue188
  t55 := Tryd.underlying204
  a55 := Tryd.isAgg204
  z55 := Tryd.sizeOf204
  v55 := Tryd.zeroValue204
  t66 := Tryd.underlying207
  a66 := Tryd.isAgg207
  z66 := Tryd.sizeOf207
  v66 := Tryd.zeroValue207
  t70 := Tryd.underlying211
  a70 := Tryd.isAgg211
  z70 := Tryd.sizeOf211
  v70 := Tryd.zeroValue211
  t76 := Tryd.underlying213
  a76 := Tryd.isAgg213
  z76 := Tryd.sizeOf213
  v76 := Tryd.zeroValue213
  t77 := Tryd.underlying170
  a77 := Tryd.isAgg170
  z77 := Tryd.sizeOf170
  v77 := Tryd.zeroValue170 }
end Go.Proofs
end
section
namespace Go.Proofs.YteeigokkafcaaaaDoor.SpanSort
open Go.RowKit Go.Sort Go.Lib Go.Proofs.YteeigokkafcaaaaDoorW.PrintWords Go.Proofs.YteeigokkafcaaaaDoorW.PrintLast Go.Proofs.YteeigokkafcaaaaDoorW.PrintMore Go.Proofs.YteeigokkafcaaaaDoor.Pr
abbrev RB : Type := {r : S133 // 0 ≤ r.f0 ∧ r.f0 ≤ 1048576}
instance : Inhabited RB := ⟨⟨⟨0, 0⟩, by decide⟩⟩
def encB (r : RB) : List Value := enc36 r.1
def cfB (x y : RB) : Int := x.1.f0 - y.1.f0
theorem ltB (x y : RB) : ltOf cfB x y = decide (x.1.f0 < y.1.f0) := by
  unfold ltOf cfB
  by_cases h : x.1.f0 < y.1.f0
  · rw [decide_eq_true h]; exact decide_eq_true (by omega)
  · rw [decide_eq_false h]; exact decide_eq_false (by omega)
theorem swoB : SWO (ltOf cfB) where
  irrefl x := by rw [ltB]; simp
  trans x y z h1 h2 := by rw [ltB] at *; simp at *; omega
  ntrans x y z h1 h2 := by rw [ltB] at *; simp at *; omega
theorem cmpB (blk off size : Nat) (w : World) : CmpLays Tryd.prog 91 #[] encB 2 cfB blk off size w := fun _ _ _ _ x y => closure48 x.1 y.1 x.2 y.2 _
theorem flat_toList (d : Array RB) : (flatK encB 2 d).toList = flat36 (d.toList.map (fun r => r.1)) := by
  apply List.ext_getElem?
  intro t
  by_cases ht : t < d.size * 2
  · have hj : t / 2 < d.size := by omega
    have hj2 : t / 2 < (d.toList.map (fun r => r.1)).length := by simpa using hj
    obtain ⟨g0, g1⟩ := flat36_get (d.toList.map (fun r => r.1)) (t / 2) hj2
    have hs : t < (flatK encB 2 d).size := by rw [size_flatK]; exact ht
    have e1 : (flatK encB 2 d).toList[t]? = some (flatK encB 2 d)[t]! := by
      rw [Array.getElem?_toList, Array.getElem?_eq_getElem hs, getElem!_pos _ t hs]
    rw [e1, get_flatK encB 2 d t ht, getElem!_pos d (t / 2) hj]
    have hv : (d.toList.map (fun r => r.1))[t / 2] = (d[t / 2]).1 := by simp
    rw [hv] at g0 g1
    rcases Nat.mod_two_eq_zero_or_one t with hm | hm
    · rw [show t / 2 * 2 = t from by omega] at g0
      rw [hm, g0]; rfl
    · rw [show t / 2 * 2 + 1 = t from by omega] at g1
      rw [hm, g1]; rfl
  · rw [List.getElem?_eq_none (by rw [Array.length_toList, size_flatK]; omega), List.getElem?_eq_none (by rw [flat36_len]; simp; omega)]
theorem put_take (F cur : Array Value) (h : F.size ≤ cur.size) : (putCells id 0 F cur).toList.take F.size = F.toList := by
  apply List.ext_getElem?
  intro t
  rw [List.getElem?_take]
  by_cases ht : t < F.size
  · rw [if_pos ht, Array.getElem?_toList, Array.getElem?_toList, Array.getElem?_eq_getElem ht]
    unfold putCells
    rw [Array.getElem?_mapIdx, Array.getElem?_eq_getElem (by omega)]
    simp [ht]
  · rw [if_neg ht, List.getElem?_eq_none (by rw [Array.length_toList]; omega)]
theorem sort36 {W : World} {base : Nat} {ok : Nat → Prop} {A : Option Addr} {c : Nat} {ys : List S133} (HO : Kd.R k133 133 W base ok (.slice A ys.length c) ys) (hb : ∃ b, (Value.slice A ys.length c).ownBlock = some b) (hg : ∀ r ∈ ys, 0 ≤ r.f0 ∧ r.f0 ≤ 1048576) (hl : ys.length ≤ 32768) :
    Calls Tryd.prog 90 #[.slice A ys.length c, .func (.func 91) #[] #[]] W fun e w' => e = .returned (.tuple #[]) ∧ ∃ zs : List S133, zs.Perm ys ∧ zs.Pairwise (fun p q => p.f0 ≤ q.f0) ∧ Kd.R k133 133 w' base ok (.slice A zs.length c) zs ∧ Below base W w' := by
  obtain ⟨h0, hown⟩ := row_of_R HO
  rcases hown.2 with ⟨hv, _⟩ | ⟨g, cap, cur, hv, hbg, hh, hnc, hcm, hcs, htake⟩
  · obtain ⟨b, hb⟩ := hb
    rw [hv] at hb
    simp [Value.ownBlock] at hb
  injection hv with hA _ hc
  subst hA
  subst hc
  let ds : List RB := ys.attach.map (fun x => ⟨x.1, hg x.1 x.2⟩)
  have hds : ds.map (fun r => r.1) = ys := by simp [ds]
  have hdl : ds.length = ys.length := by simp [ds]
  have hsz : ds.toArray.size = ys.length := by simp [ds]
  have hF : (flatK encB 2 ds.toArray).toList = flat36 ys := by rw [flat_toList]; simp only [hds]
  have hH : HoldsK encB 2 W g 0 ds.toArray := by
    intro j hj
    rw [size_flatK, hsz] at hj
    refine ⟨?_, blk_frozen hh _⟩
    have e1 : (flatK encB 2 ds.toArray)[j]! = cur[j]! := by
      have hj1 : j < (flatK encB 2 ds.toArray).size := by rw [size_flatK, hsz]; exact hj
      have hj2 : j < cur.size := by rw [hcs]; omega
      have e2 : (flatK encB 2 ds.toArray).toList[j]? = cur.toList[j]? := by
        rw [hF, ← htake, List.getElem?_take, if_pos hj]
      rw [Array.getElem?_toList, Array.getElem?_toList, Array.getElem?_eq_getElem hj1, Array.getElem?_eq_getElem hj2] at e2
      injection e2 with e2
      rw [getElem!_pos _ j hj1, getElem!_pos _ j hj2, e2]
    have hj2 : j < cur.size := by rw [hcs]; omega
    simp only [Nat.zero_add, World.cell?, hh, e1, id]
    rw [getElem!_pos _ j hj2]
    simp [hj2]
  have hcon := AnyQ.slices_SortFunc Tryd.sortR 2 Tryd.isAgg133 Tryd.sizeOf133 encB (fun _ => rfl) (fun x v hv => by simp [encB, enc36] at hv; rcases hv with rfl | rfl <;> rfl) cfB swoB 91 #[] g 0 c ds.toArray W (enters_of Tryd.func91 (by kernel_rfl) rfl) (cmpB g 0 ds.toArray.size W) hH (blk_lt hh) (by omega)
  change Calls Tryd.prog 90 _ _ _ at hcon
  rw [hsz] at hcon
  refine hcon.mono ?_
  rintro e w' ⟨rfl, d', n, os, ⟨p1, _, p3⟩, hs, rfl⟩
  replace p1 : d'.size = ys.length := p1.trans hsz
  have hzl : d'.toList.length = ys.length := by rw [Array.length_toList, p1]
  refine ⟨rfl, d'.toList.map (fun r => r.1), ?_, ?_, ?_, ?_⟩
  · rw [Array.extract_eq_self_of_le (by omega), Array.extract_eq_self_of_le (by omega)] at p3
    have := p3.map (fun r : RB => r.1)
    simp only [hds] at this
    exact this
  · rw [List.pairwise_iff_getElem]
    intro i j hi hj hij
    simp only [List.length_map, Array.length_toList] at hi hj
    have := hs i j (Nat.zero_le _) hij (by omega)
    rw [ltB, getElem!_pos d' i hi, getElem!_pos d' j hj, decide_eq_false_iff_not] at this
    simp
    omega
  · have hlen : (d'.toList.map (fun r : RB => r.1)).length = ys.length := by rw [List.length_map, hzl]
    rw [hlen]
    refine R_of_row h0 ⟨by rw [flat36_len], .inr ⟨g, c, putCells id 0 (flatK encB 2 d') cur, by rw [hlen], hbg, ?_, by omega, hcm, by simp [putCells, hcs], ?_⟩⟩
    · have hlt := blk_lt hh
      show ((W.heap.modify g (onCells (putCells id 0 (flatK encB 2 d')))) ++ os)[g]? = _
      rw [Array.getElem?_append_left (by simpa using hlt), Array.getElem?_modify, if_pos rfl, hh]
      rfl
    · rw [← flat_toList, show (d'.toList.map (fun r : RB => r.1)).length * 2 = (flatK encB 2 d').size from by rw [size_flatK, hlen, p1]]
      exact put_take _ _ (by rw [size_flatK, p1, hcs]; omega)
  · have hlt := blk_lt hh
    refine ⟨rfl, rfl, rfl, ?_, fun k hk => ?_⟩
    · show W.heap.size ≤ ((W.heap.modify g (onCells (putCells id 0 (flatK encB 2 d')))) ++ os).size
      simp
    · show ((W.heap.modify g (onCells (putCells id 0 (flatK encB 2 d')))) ++ os)[k]? = _
      rw [Array.getElem?_append_left (by simp; omega), Array.getElem?_modify, if_neg (by omega)]
end Go.Proofs.YteeigokkafcaaaaDoor.SpanSort
end
section
namespace Go.Proofs.YteeigokkafcaaaaDoor.Pr
open Go.RowKit Go.Proofs.YteeigokkafcaaaaDoorW.PrintWords Go.Proofs.YteeigokkafcaaaaDoorW.PrintLast Go.Proofs.YteeigokkafcaaaaDoorW.PrintMore
attribute [local go_sem] max2_int min2_int max_two min_two max_three min_three max_four min_four
set_option linter.unusedVariables false
set_option linter.unusedSimpArgs false
open Go.Proofs.YteeigokkafcaaaaDoor.SpanMath
open Go.Proofs.YteeigokkafcaaaaDoor
set_option maxHeartbeats 8000000 in
set_option maxRecDepth 100000 in
theorem span_Make.calls (A0 : Option Addr) (c0 : Nat) (l0 : List (S133)) (r1 : List (S133)) (r2 : Int) (w : World) (hr0 : Kd.C k133 w A0 l0.length l0) (hc0 : l0.length ≤ c0) (h : span_Make.f l0 = some (r1, r2)) :
  Calls Tryd.prog 46 #[.slice A0 l0.length c0] w fun e w' => ∃ v, e = .returned (.tuple #[v, .int .i64 r2]) ∧ Kd.R k133 133 w' w.heap.size (fun _ => True) v r1 ∧ Below w.heap.size w w' := by
 have hu133 := Tryd.underlying133
 have HR0 := Aside0.mk hr0
 have HC0 := Aside0.mk hc0
 clear hr0 hc0
 have HB := Aside0.mk (Below.refl w.heap.size w)
 have H : (if (l0.length : Int) > 32768 then (some (([] : List (S133)), 21)) else (span_Make.l0 (l0.length + 1) l0 l0 (l0.length : Int) 0)) = some (r1, r2) := h
 generalize l0.length + 1 = k at H
 clear h
 by_cases c2 : (l0.length : Int) > 32768
 ·rw [if_pos c2] at H
  have c2b0 : decide (32768 < (l0.length : Int)) = true := decide_eq_true c2
  have c2b1 : decide (32768 < l0.length) = true := decide_eq_true (by omega)
  clear c2
  simp only [Option.some.injEq, Prod.mk.injEq] at H
  obtain ⟨rfl, rfl⟩ := H
  go_enter Tryd.func46, Tryd.ntmps46
  go_wp2
  go_ret2
  exact ⟨_, by first | rfl | (simp [errW_none, errW_some] <;> rfl) | (simp [*, errW_none, errW_some] <;> rfl), by first | exact Kd.R_nil _ _ _ _ _ | exact Kd.N_nil _ _ _ _ _ | exact Kd.V_nil _ _ _ _ _ | exact Kd.Q_nil _ _ _ _ _ | exact Kd.S_nil _ _ _ _ _, by repeat (first | (with_reducible first | exact HB.out | apply below_alloc | apply pw_below_drewN | apply below_drew1) | exact HB.out)⟩
 ·rw [if_neg c2] at H
  have c2b0 : decide (32768 < (l0.length : Int)) = false := decide_eq_false c2
  have c2b1 : decide (32768 < l0.length) = false := decide_eq_false (by omega)
  clear c2
  have H' := Aside0.mk H
  clear H
  go_enter Tryd.func46, Tryd.ntmps46
  go_wp2
  go_loopg [15] k (fun kq v15 w' => ∃ (x15_1 : Int), v15 = .int .i64 x15_1 ∧ Aside0 (span_Make.l0 kq l0 l0 (l0.length : Int) x15_1 = some (r1, r2)) ∧ Aside0 (kq ≤ k) ∧ Aside0 (Below w.heap.size w w'))
  case atStart => exact ⟨(0), (by first | rfl | (simp; done) | (simp [*]; done)), H', ⟨Nat.le_refl _⟩, ⟨by repeat (first | (with_reducible first | exact HB.out | apply below_alloc | apply pw_below_drewN | apply below_drew1) | exact HB.out)⟩⟩
  case round =>
   clear H'
   try clear c1
   try clear c2
   try clear c2b0
   try clear c2b1
   try clear p2
   obtain ⟨x15_1, rfl, HA, HK1, HB⟩ := hrel
   cases gk with
   | zero => exact absurd HA.out (by simp [span_Make.l0])
   | succ k1 =>
    have H := HA.out
    clear HA
    simp only [span_Make.l0] at H
    by_cases c3 : x15_1 < (l0.length : Int)
    ·rw [if_pos c3] at H
     have c3b0 : decide (x15_1 < (l0.length : Int)) = true := decide_eq_true c3
     clear c3
     by_cases c4 : 0 ≤ x15_1
     ·rw [if_pos c4] at H
      have c4b0 : decide (0 ≤ x15_1) = true := decide_eq_true c4
      clear c4
      by_cases c5 : x15_1 < (l0.length : Int)
      ·rw [if_pos c5] at H
       have c5b0 : decide (x15_1 < (l0.length : Int)) = true := decide_eq_true c5
       clear c5
       by_cases c6 : ((rd_T133 l0 x15_1).f0) < 0
       ·rw [if_pos c6] at H
        have c6b0 : decide (((rd_T133 l0 x15_1).f0) < 0) = true := decide_eq_true c6
        clear c6
        simp only [Option.some.injEq, Prod.mk.injEq] at H
        obtain ⟨rfl, rfl⟩ := H
        have p112 : 0 ≤ (x15_1 : Int) := of_decide_eq_true (by first | (with_reducible assumption) | assumption)
        have q112 : x15_1 < (l0.length : Int) := of_decide_eq_true (by first | (with_reducible assumption) | assumption)
        obtain ⟨ad112, e112, hx112_0, hx112_1⟩ := at_T133 HR0.out x15_1 p112 q112
        cases e112
        replace hx112_0 := (HB.out.cell (World.block_lt_of_cell? w _ hx112_0)).trans hx112_0
        replace hx112_1 := (HB.out.cell (World.block_lt_of_cell? w _ hx112_1)).trans hx112_1
        replace p112 := eq_true p112
        replace q112 := eq_true q112
        go_wp2_with (first | ((with_reducible refine gate_dst (N := 5) rfl ?_); refine box_event ?hg (N := 5) ?hd (cs := #[.int .i64 0, .int .i64 0]) (t := 133) ?hr ?_; (case hd => rfl); (case hg => rfl); (case hr => first | (go_simp; done) | (go_simp; rfl)); intro gb113 hg w7 hbox hb; have n0_ := Aside0.mk (below_step (by repeat (first | (with_reducible first | exact HB.out | apply below_alloc | apply pw_below_drewN | apply below_drew1) | exact HB.out)) hb); have n1_ := Aside0.mk (hbox); have n2_ := Aside0.mk ((by rw [hg]; exact (below_size (by repeat (first | (with_reducible first | exact HB.out | apply below_alloc | apply pw_below_drewN | apply below_drew1) | exact HB.out))) : w.heap.size ≤ gb113)); have n3_ := Aside0.mk ((by rw [hg]; exact (below_size (by repeat (first | (with_reducible first | exact HB.out | apply below_alloc | apply pw_below_drewN | apply below_drew1) | exact HB.out))) : w.heap.size ≤ gb113)); clear HB; have HB := n0_; have BK113 := n1_; have GW113 := n2_; have GE113 := n3_; clear n0_ n1_ n2_ n3_; clear hb hbox hg; have hcz8_0 : w7.cell? ⟨gb113, 0, none⟩ = some (.int .i64 0) := (blk_cell BK113.out 0).trans rfl; have hcz8_1 : w7.cell? ⟨gb113, 1, none⟩ = some (.int .i64 0) := (blk_cell BK113.out 1).trans rfl; have hfz8_0 := blk_frozen BK113.out 0; have hfz8_1 := blk_frozen BK113.out 1))
        go_ret2
        exact ⟨_, by first | rfl | (simp [errW_none, errW_some] <;> rfl) | (simp [*, errW_none, errW_some] <;> rfl), by first | exact Kd.R_nil _ _ _ _ _ | exact Kd.N_nil _ _ _ _ _ | exact Kd.V_nil _ _ _ _ _ | exact Kd.Q_nil _ _ _ _ _ | exact Kd.S_nil _ _ _ _ _, by repeat (first | (with_reducible first | exact HB.out | apply below_alloc | apply pw_below_drewN | apply below_drew1 | refine below_set ?_ GE113.out) | exact HB.out)⟩
       ·rw [if_neg c6] at H
        have c6b0 : decide (((rd_T133 l0 x15_1).f0) < 0) = false := decide_eq_false c6
        clear c6
        by_cases c9 : ((rd_T133 l0 x15_1).f1) > 1048576
        ·rw [if_pos c9] at H
         have c9b0 : decide (1048576 < ((rd_T133 l0 x15_1).f1)) = true := decide_eq_true c9
         clear c9
         simp only [Option.some.injEq, Prod.mk.injEq] at H
         obtain ⟨rfl, rfl⟩ := H
         have p112 : 0 ≤ (x15_1 : Int) := of_decide_eq_true (by first | (with_reducible assumption) | assumption)
         have q112 : x15_1 < (l0.length : Int) := of_decide_eq_true (by first | (with_reducible assumption) | assumption)
         obtain ⟨ad112, e112, hx112_0, hx112_1⟩ := at_T133 HR0.out x15_1 p112 q112
         cases e112
         replace hx112_0 := (HB.out.cell (World.block_lt_of_cell? w _ hx112_0)).trans hx112_0
         replace hx112_1 := (HB.out.cell (World.block_lt_of_cell? w _ hx112_1)).trans hx112_1
         replace p112 := eq_true p112
         replace q112 := eq_true q112
         go_wp2_with (first | ((with_reducible refine gate_dst (N := 5) rfl ?_); refine box_event ?hg (N := 5) ?hd (cs := #[.int .i64 0, .int .i64 0]) (t := 133) ?hr ?_; (case hd => rfl); (case hg => rfl); (case hr => first | (go_simp; done) | (go_simp; rfl)); intro gb113 hg w10 hbox hb; have n0_ := Aside0.mk (below_step (by repeat (first | (with_reducible first | exact HB.out | apply below_alloc | apply pw_below_drewN | apply below_drew1) | exact HB.out)) hb); have n1_ := Aside0.mk (hbox); have n2_ := Aside0.mk ((by rw [hg]; exact (below_size (by repeat (first | (with_reducible first | exact HB.out | apply below_alloc | apply pw_below_drewN | apply below_drew1) | exact HB.out))) : w.heap.size ≤ gb113)); have n3_ := Aside0.mk ((by rw [hg]; exact (below_size (by repeat (first | (with_reducible first | exact HB.out | apply below_alloc | apply pw_below_drewN | apply below_drew1) | exact HB.out))) : w.heap.size ≤ gb113)); clear HB; have HB := n0_; have BK113 := n1_; have GW113 := n2_; have GE113 := n3_; clear n0_ n1_ n2_ n3_; clear hb hbox hg; have hcz11_0 : w10.cell? ⟨gb113, 0, none⟩ = some (.int .i64 0) := (blk_cell BK113.out 0).trans rfl; have hcz11_1 : w10.cell? ⟨gb113, 1, none⟩ = some (.int .i64 0) := (blk_cell BK113.out 1).trans rfl; have hfz11_0 := blk_frozen BK113.out 0; have hfz11_1 := blk_frozen BK113.out 1))
         go_ret2
         exact ⟨_, by first | rfl | (simp [errW_none, errW_some] <;> rfl) | (simp [*, errW_none, errW_some] <;> rfl), by first | exact Kd.R_nil _ _ _ _ _ | exact Kd.N_nil _ _ _ _ _ | exact Kd.V_nil _ _ _ _ _ | exact Kd.Q_nil _ _ _ _ _ | exact Kd.S_nil _ _ _ _ _, by repeat (first | (with_reducible first | exact HB.out | apply below_alloc | apply pw_below_drewN | apply below_drew1 | refine below_set ?_ GE113.out) | exact HB.out)⟩
        ·rw [if_neg c9] at H
         have c9b0 : decide (1048576 < ((rd_T133 l0 x15_1).f1)) = false := decide_eq_false c9
         clear c9
         by_cases c12 : ((rd_T133 l0 x15_1).f0) > ((rd_T133 l0 x15_1).f1)
         ·rw [if_pos c12] at H
          have c12b0 : decide (((rd_T133 l0 x15_1).f1) < ((rd_T133 l0 x15_1).f0)) = true := decide_eq_true c12
          clear c12
          simp only [Option.some.injEq, Prod.mk.injEq] at H
          obtain ⟨rfl, rfl⟩ := H
          have p112 : 0 ≤ (x15_1 : Int) := of_decide_eq_true (by first | (with_reducible assumption) | assumption)
          have q112 : x15_1 < (l0.length : Int) := of_decide_eq_true (by first | (with_reducible assumption) | assumption)
          obtain ⟨ad112, e112, hx112_0, hx112_1⟩ := at_T133 HR0.out x15_1 p112 q112
          cases e112
          replace hx112_0 := (HB.out.cell (World.block_lt_of_cell? w _ hx112_0)).trans hx112_0
          replace hx112_1 := (HB.out.cell (World.block_lt_of_cell? w _ hx112_1)).trans hx112_1
          replace p112 := eq_true p112
          replace q112 := eq_true q112
          go_wp2_with (first | ((with_reducible refine gate_dst (N := 5) rfl ?_); refine box_event ?hg (N := 5) ?hd (cs := #[.int .i64 0, .int .i64 0]) (t := 133) ?hr ?_; (case hd => rfl); (case hg => rfl); (case hr => first | (go_simp; done) | (go_simp; rfl)); intro gb113 hg w13 hbox hb; have n0_ := Aside0.mk (below_step (by repeat (first | (with_reducible first | exact HB.out | apply below_alloc | apply pw_below_drewN | apply below_drew1) | exact HB.out)) hb); have n1_ := Aside0.mk (hbox); have n2_ := Aside0.mk ((by rw [hg]; exact (below_size (by repeat (first | (with_reducible first | exact HB.out | apply below_alloc | apply pw_below_drewN | apply below_drew1) | exact HB.out))) : w.heap.size ≤ gb113)); have n3_ := Aside0.mk ((by rw [hg]; exact (below_size (by repeat (first | (with_reducible first | exact HB.out | apply below_alloc | apply pw_below_drewN | apply below_drew1) | exact HB.out))) : w.heap.size ≤ gb113)); clear HB; have HB := n0_; have BK113 := n1_; have GW113 := n2_; have GE113 := n3_; clear n0_ n1_ n2_ n3_; clear hb hbox hg; have hcz14_0 : w13.cell? ⟨gb113, 0, none⟩ = some (.int .i64 0) := (blk_cell BK113.out 0).trans rfl; have hcz14_1 : w13.cell? ⟨gb113, 1, none⟩ = some (.int .i64 0) := (blk_cell BK113.out 1).trans rfl; have hfz14_0 := blk_frozen BK113.out 0; have hfz14_1 := blk_frozen BK113.out 1))
          go_ret2
          exact ⟨_, by first | rfl | (simp [errW_none, errW_some] <;> rfl) | (simp [*, errW_none, errW_some] <;> rfl), by first | exact Kd.R_nil _ _ _ _ _ | exact Kd.N_nil _ _ _ _ _ | exact Kd.V_nil _ _ _ _ _ | exact Kd.Q_nil _ _ _ _ _ | exact Kd.S_nil _ _ _ _ _, by repeat (first | (with_reducible first | exact HB.out | apply below_alloc | apply pw_below_drewN | apply below_drew1 | refine below_set ?_ GE113.out) | exact HB.out)⟩
         ·rw [if_neg c12] at H
          have c12b0 : decide (((rd_T133 l0 x15_1).f1) < ((rd_T133 l0 x15_1).f0)) = false := decide_eq_false c12
          clear c12
          have H' := Aside0.mk H
          clear H
          have p112 : 0 ≤ (x15_1 : Int) := of_decide_eq_true (by first | (with_reducible assumption) | assumption)
          have q112 : x15_1 < (l0.length : Int) := of_decide_eq_true (by first | (with_reducible assumption) | assumption)
          obtain ⟨ad112, e112, hx112_0, hx112_1⟩ := at_T133 HR0.out x15_1 p112 q112
          cases e112
          replace hx112_0 := (HB.out.cell (World.block_lt_of_cell? w _ hx112_0)).trans hx112_0
          replace hx112_1 := (HB.out.cell (World.block_lt_of_cell? w _ hx112_1)).trans hx112_1
          replace p112 := eq_true p112
          replace q112 := eq_true q112
          go_wp2_with (first | ((with_reducible refine gate_dst (N := 5) rfl ?_); refine box_event ?hg (N := 5) ?hd (cs := #[.int .i64 0, .int .i64 0]) (t := 133) ?hr ?_; (case hd => rfl); (case hg => rfl); (case hr => first | (go_simp; done) | (go_simp; rfl)); intro gb113 hg w15 hbox hb; have n0_ := Aside0.mk (below_step (by repeat (first | (with_reducible first | exact HB.out | apply below_alloc | apply pw_below_drewN | apply below_drew1) | exact HB.out)) hb); have n1_ := Aside0.mk (hbox); have n2_ := Aside0.mk ((by rw [hg]; exact (below_size (by repeat (first | (with_reducible first | exact HB.out | apply below_alloc | apply pw_below_drewN | apply below_drew1) | exact HB.out))) : w.heap.size ≤ gb113)); have n3_ := Aside0.mk ((by rw [hg]; exact (below_size (by repeat (first | (with_reducible first | exact HB.out | apply below_alloc | apply pw_below_drewN | apply below_drew1) | exact HB.out))) : w.heap.size ≤ gb113)); clear HB; have HB := n0_; have BK113 := n1_; have GW113 := n2_; have GE113 := n3_; clear n0_ n1_ n2_ n3_; clear hb hbox hg; have hcz16_0 : w15.cell? ⟨gb113, 0, none⟩ = some (.int .i64 0) := (blk_cell BK113.out 0).trans rfl; have hcz16_1 : w15.cell? ⟨gb113, 1, none⟩ = some (.int .i64 0) := (blk_cell BK113.out 1).trans rfl; have hfz16_0 := blk_frozen BK113.out 0; have hfz16_1 := blk_frozen BK113.out 1))
          go_roundg k1
          case measure => have := HK1.out; omega
          case rel => exact ⟨(wrap64 (x15_1 + 1)), (by first | rfl | (simp; done) | (simp [*]; done)), H', ⟨by have := HK1.out; omega⟩, ⟨by repeat (first | (with_reducible first | exact HB.out | apply below_alloc | apply pw_below_drewN | apply below_drew1 | refine below_set ?_ GE113.out) | exact HB.out)⟩⟩
      ·rw [if_neg c5] at H
       exact absurd H (by simp)
     ·rw [if_neg c4] at H
      exact absurd H (by simp)
    ·rw [if_neg c3] at H
     have c3b0 : decide (x15_1 < (l0.length : Int)) = false := decide_eq_false c3
     clear c3
     by_cases c17 : 0 ≤ (l0.length : Int)
     ·rw [if_pos c17] at H
      have c17b0 := eq_true c17
      have c17b1 : decide (0 ≤ (l0.length : Int)) = true := decide_eq_true c17
      clear c17
      by_cases c18 : ((l0.length : Int) : Int).toNat ≤ 17592186044416
      ·rw [if_pos c18] at H
       have c18b0 := eq_true c18
       have c18b1 : decide (((l0.length : Int) : Int).toNat ≤ 17592186044416) = true := decide_eq_true c18
       clear c18
       obtain ⟨hshort, hgood, hfin⟩ := span_Make.fin_open H
       clear H
       go_wp2_with (first | ((with_reducible refine gate_dst (N := 37) rfl ?_); refine Kd.R_make k133 _ 133 rfl (N := 37) rfl 61 _ _ rfl (l0.length : Int) rfl rfl Tryd.underlying61 (.agg #[(.int .i64 0), (.int .i64 0)]) 16 info133 rfl (by decide) (by omega) z133 (ok := fun _ => True) (okp := fun _ => True) (k133_mkM _ _ _ z133 ) (fun _ hk => hk) trivial (of_decide_eq_true (by first | (with_reducible assumption) | assumption)) (Nat.le_trans (Nat.mul_le_mul_right _ (of_decide_eq_true (by first | (with_reducible assumption) | assumption) : (l0.length : Int).toNat ≤ 17592186044416)) (by omega)) (Below.refl _ _) (Nat.le_refl _) ?_; intro v115 w19 ho20 hb hg_ hnew_; clear hg_; have hnew0 : ∃ b, (v115 : Value).ownBlock = some b := Exists.elim hnew_ (fun b h_ => ⟨b, h_.1⟩); clear hnew_; have n0_ := Aside0.mk (Kd.R_lower ho20 (below_size (by repeat (first | (with_reducible first | exact HB.out | apply below_alloc | apply pw_below_drewN | apply below_drew1) | exact HB.out)))); have n1_ := Aside0.mk (below_step (by repeat (first | (with_reducible first | exact HB.out | apply below_alloc | apply pw_below_drewN | apply below_drew1) | exact HB.out)) hb); clear HB; have HOm := n0_; have HB := n1_; clear n0_ n1_; clear hb ho20) | ((with_reducible refine gate_builtin (b := .copy) (xs := #[.tmp 38, .tmp 39]) rfl ?_); refine SpanSort.R_copy36 (w0 := w) w.heap.size rfl (.tmp 38) (.tmp 39) 61 61 rfl Tryd.underlying61 SpanSort.info36s v115 (List.replicate ((l0.length : Int) : Int).toNat z133) l0 A0 c0 (fun _ => True) rfl rfl (by simp) hnew0 ?aO ?aR ?aB ?aS ?_; (case aO => (with_reducible repeat (first | apply Kd.R_alloc | apply Kd.R_drewN | apply Kd.R_drew)); exact HOm.out); (case aR => exact Kd.C_below HR0.out (by repeat (first | (with_reducible first | exact HB.out | apply below_alloc | apply pw_below_drewN | apply below_drew1) | exact HB.out))); (case aB => exact (by repeat (first | (with_reducible first | exact HB.out | apply below_alloc | apply pw_below_drewN | apply below_drew1) | exact HB.out))); (case aS => exact below_size (by repeat (first | (with_reducible first | exact HB.out | apply below_alloc | apply pw_below_drewN | apply below_drew1) | exact HB.out))); intro wcp hcp hbcp; have n0_ := Aside0.mk hcp; have n1_ := Aside0.mk hbcp; clear HB HOm; have HOm := n0_; have HB := n1_; clear n0_ n1_ hcp hbcp; obtain ⟨Acp, ccp, ecp⟩ := Kd.R_slice HOm.out; subst ecp) | ((with_reducible refine gate_callee (f := 90) rfl ?_); refine goesL_ (some 42) rfl rfl Tryd.func90 (by kernel_rfl) rfl #[.slice Acp l0.length ccp, .func (.func 91) #[] #[]] rfl (by (try simp only [List.map_toArray, List.map_cons, List.map_nil]); first | done | rfl) ?_; refine (SpanSort.sort36 (ok := fun _ => True) (by (with_reducible repeat (first | apply Kd.R_alloc | apply Kd.R_drewN | apply Kd.R_drew)); exact HOm.out) hnew0 hgood hshort).mono ?_; rintro e wso ⟨rfl, zs, hzp, hzs, hzr, hzb⟩; refine ⟨_, rfl, ?_⟩; have n0_ := Aside0.mk hzr; have n1_ := Aside0.mk (Below.trans (by repeat (first | (with_reducible first | exact HB.out | apply below_alloc | apply pw_below_drewN | apply below_drew1) | exact HB.out)) hzb); clear HB HOm; have HO116 := n0_; have HB := n1_; clear n0_ n1_ hzr hzb; have hzl_ := hzp.length_eq; rw [← hzl_]; clear hzl_))
       have H' := Aside0.mk (hfin zs hzp hzs)
       clear hfin hgood hshort hzp hzs hnew0
       generalize zs.length + 1 = kz at H'
       go_loopg [7, 45] kz (fun kq v7 v45 w' => ∃ (x7_2 : List (S133)) (x45_2 : Int), v45 = .int .i64 x45_2 ∧ Aside0 (span_Make.l1 kq x7_2 zs (zs.length : Int) x45_2 = some (r1, r2)) ∧ Aside0 (kq ≤ kz) ∧ Aside0 (Kd.R k133 133 w' w.heap.size (fun k_ => some k_ ≠ ((.slice Acp zs.length ccp) : Value).ownBlock) v7 x7_2) ∧ Aside0 (Kd.R k133 133 w' w.heap.size (fun k_ => some k_ ≠ (v7 : Value).ownBlock) (.slice Acp zs.length ccp) zs) ∧ Aside0 (Below w.heap.size w w'))
       case atStart => exact ⟨(([] : List (S133))), (0), (by first | rfl | (simp; done) | (simp [*]; done)), H', ⟨Nat.le_refl _⟩, ⟨by first | exact Kd.R_nil _ _ _ _ _ | exact Kd.N_nil _ _ _ _ _ | exact Kd.V_nil _ _ _ _ _ | exact Kd.Q_nil _ _ _ _ _ | exact Kd.S_nil _ _ _ _ _⟩, ⟨by (with_reducible repeat (first | apply Kd.R_alloc | apply Kd.R_drewN | apply Kd.R_drew)); exact Kd.R_mono HO116.out (fun _ hk => (by simp [Value.ownBlock]))⟩, ⟨by repeat (first | (with_reducible first | exact HB.out | apply below_alloc | apply pw_below_drewN | apply below_drew1) | exact HB.out)⟩⟩
       case round =>
        clear H'
        try clear c1
        try clear p1
        try clear q1
        try clear hx1
        try clear c2
        try clear c2b0
        try clear c2b1
        try clear p2
        try clear c3
        try clear c3b0
        try clear c4
        try clear c4b0
        try clear c5
        try clear c5b0
        try clear c6
        try clear c6b0
        try clear p6
        try clear c9
        try clear c9b0
        try clear p11
        try clear q11
        try clear hx11
        try clear c12
        try clear c12b0
        try clear c16
        try clear c17
        try clear c17b0
        try clear c17b1
        try clear c18
        try clear c18b0
        try clear c18b1
        try clear hcz11_0
        try clear hcz11_1
        try clear hcz14_0
        try clear hcz14_1
        try clear hcz16_0
        try clear hcz16_1
        try clear hcz8_0
        try clear hcz8_1
        try clear hfz11_0
        try clear hfz11_1
        try clear hfz14_0
        try clear hfz14_1
        try clear hfz16_0
        try clear hfz16_1
        try clear hfz8_0
        try clear hfz8_1
        try clear hx112_0
        try clear hx112_1
        try clear p112
        try clear p2
        try clear q112
        obtain ⟨x7_2, x45_2, rfl, HA, HK2, HO_7, HO_43, HB⟩ := hrel
        cases gk with
        | zero => exact absurd HA.out (by simp [span_Make.l1])
        | succ k2 =>
         have H := HA.out
         clear HA
         simp only [span_Make.l1] at H
         by_cases c22 : x45_2 < (zs.length : Int)
         ·rw [if_pos c22] at H
          have c22b0 : decide (x45_2 < (zs.length : Int)) = true := decide_eq_true c22
          clear c22
          by_cases c23 : 0 ≤ x45_2
          ·rw [if_pos c23] at H
           have c23b0 : decide (0 ≤ x45_2) = true := decide_eq_true c23
           clear c23
           by_cases c24 : x45_2 < (zs.length : Int)
           ·rw [if_pos c24] at H
            have c24b0 : decide (x45_2 < (zs.length : Int)) = true := decide_eq_true c24
            clear c24
            replace H := Option.bind_eq_some_iff.mp H
            obtain ⟨t119, A250, H⟩ := H
            replace H : (span_Make.l1 k2 t119 zs (zs.length : Int) (wrap64 (x45_2 + 1))) = some (r1, r2) := H
            have A25 := Aside0.mk A250
            clear A250
            have H' := Aside0.mk H
            clear H
            have p117 : 0 ≤ (x45_2 : Int) := of_decide_eq_true (by first | (with_reducible assumption) | assumption)
            have q117 : x45_2 < (zs.length : Int) := of_decide_eq_true (by first | (with_reducible assumption) | assumption)
            obtain ⟨ad117, e117, hx117_0, hx117_1⟩ := at_T133 (Kd.R_reads' HO_43.out).2.2 x45_2 p117 q117
            cases e117
            replace p117 := eq_true p117
            replace q117 := eq_true q117
            go_wp2_with (first | ((with_reducible refine gate_dst (N := 9) rfl ?_); refine box_event ?hg (N := 9) ?hd (cs := #[.int .i64 0, .int .i64 0]) (t := 133) ?hr ?_; (case hd => rfl); (case hg => rfl); (case hr => first | (go_simp; done) | (go_simp; rfl)); intro gb118 hg w26 hbox hb; have n0_ := Aside0.mk (Kd.R_below (Kd.R_elderB (by (with_reducible repeat (first | apply Kd.R_alloc | apply Kd.R_drewN | apply Kd.R_drew)); exact HO_7.out) gb118 (Nat.le_of_eq hg.symm)) hb); have n1_ := Aside0.mk (Kd.R_below (Kd.R_elderB (by (with_reducible repeat (first | apply Kd.R_alloc | apply Kd.R_drewN | apply Kd.R_drew)); exact HO_43.out) gb118 (Nat.le_of_eq hg.symm)) hb); have n2_ := Aside0.mk (below_step (by repeat (first | (with_reducible first | exact HB.out | apply below_alloc | apply pw_below_drewN | apply below_drew1) | exact HB.out)) hb); have n3_ := Aside0.mk (hbox); have n4_ := Aside0.mk ((by rw [hg]; exact (below_size (by repeat (first | (with_reducible first | exact HB.out | apply below_alloc | apply pw_below_drewN | apply below_drew1) | exact HB.out))) : w.heap.size ≤ gb118)); have n5_ := Aside0.mk ((by rw [hg]; exact (below_size (by repeat (first | (with_reducible first | exact HB.out | apply below_alloc | apply pw_below_drewN | apply below_drew1) | exact HB.out))) : w.heap.size ≤ gb118)); clear HO_7; clear HO_43; clear HB; have HO_7 := n0_; have HO_43 := n1_; have HB := n2_; have BK118 := n3_; have GW118 := n4_; have GE118 := n5_; clear n0_ n1_ n2_ n3_ n4_ n5_; clear hb hbox hg; have hcz27_0 : w26.cell? ⟨gb118, 0, none⟩ = some (.int .i64 0) := (blk_cell BK118.out 0).trans rfl; have hcz27_1 : w26.cell? ⟨gb118, 1, none⟩ = some (.int .i64 0) := (blk_cell BK118.out 1).trans rfl; have hfz27_0 := blk_frozen BK118.out 0; have hfz27_1 := blk_frozen BK118.out 1) | ((with_reducible refine gate_store (t := 133) (p := 9) rfl ?_); refine store_event (t := 133) (p := 9) (v := ?vo_w28) (w1 := ((w26.setCell ⟨gb118, 0, none⟩ (.int .i64 ((rd_T133 zs x45_2).f0))).setCell ⟨gb118, 1, none⟩ (.int .i64 ((rd_T133 zs x45_2).f1)))) ?hg ?ho ?hn ?hr ?_; (case ho => rfl); (case hg => rfl); (case hn => rfl); (case hr => first | (go_simp; done) | (go_simp; rfl)); intro w28 hw; have n0_ : Aside0 (Kd.R k133 133 w28 w.heap.size (fun k_ => some k_ ≠ (.slice (some ad117) zs.length ccp : Value).ownBlock ∧ k_ ≠ gb118) u7 x7_2) := ⟨(by rw [hw]; exact (by (with_reducible repeat (first | apply Kd.R_alloc | apply Kd.R_drewN | apply Kd.R_drew)); exact Kd.R_mono (Kd.R_far (p := ⟨gb118, 1, none⟩) (Kd.R_far (p := ⟨gb118, 0, none⟩) (Kd.R_mono HO_7.out (fun k_ hk => (⟨hk, hk.2⟩ : _ ∧ k_ ≠ gb118))) (fun _ hk => hk.2) (.int .i64 ((rd_T133 zs x45_2).f0))) (fun _ hk => hk.2) (.int .i64 ((rd_T133 zs x45_2).f1))) (fun _ hk => ⟨hk.1.1, hk.1.2⟩)))⟩; have n1_ : Aside0 (Kd.R k133 133 w28 w.heap.size (fun k_ => some k_ ≠ (u7 : Value).ownBlock ∧ k_ ≠ gb118) (.slice (some ad117) zs.length ccp) zs) := ⟨(by rw [hw]; exact (by (with_reducible repeat (first | apply Kd.R_alloc | apply Kd.R_drewN | apply Kd.R_drew)); exact Kd.R_mono (Kd.R_far (p := ⟨gb118, 1, none⟩) (Kd.R_far (p := ⟨gb118, 0, none⟩) (Kd.R_mono HO_43.out (fun k_ hk => (⟨hk, hk.2⟩ : _ ∧ k_ ≠ gb118))) (fun _ hk => hk.2) (.int .i64 ((rd_T133 zs x45_2).f0))) (fun _ hk => hk.2) (.int .i64 ((rd_T133 zs x45_2).f1))) (fun _ hk => ⟨hk.1.1, hk.1.2⟩)))⟩; have n2_ : Aside0 (w28.heap[gb118]? = some (.cells #[.int .i64 ((rd_T133 zs x45_2).f0), .int .i64 ((rd_T133 zs x45_2).f1)] 133 (0, 0))) := ⟨(by rw [hw]; exact (by (with_reducible repeat (first | refine blk_drewN ?_ _ | refine blk_drew ?_ | refine blk_alloc ?_ _)); refine blk_put (cs := #[.int .i64 ((rd_T133 zs x45_2).f0), .int .i64 0]) ?_ 1 _ rfl; (with_reducible repeat (first | refine blk_drewN ?_ _ | refine blk_drew ?_ | refine blk_alloc ?_ _)); refine blk_put (cs := #[.int .i64 0, .int .i64 0]) ?_ 0 _ rfl; (with_reducible repeat (first | refine blk_drewN ?_ _ | refine blk_drew ?_ | refine blk_alloc ?_ _)); exact BK118.out))⟩; have n3_ : Aside0 (Below w.heap.size w w28) := ⟨(by rw [hw]; exact (by repeat (first | (with_reducible first | exact HB.out | apply below_alloc | apply pw_below_drewN | apply below_drew1 | refine below_set ?_ GE118.out) | exact HB.out)))⟩; clear hw; clear HO_7; clear HO_43; clear BK118; clear HB; have HO_7 := n0_; have HO_43 := n1_; have BK118 := n2_; have HB := n3_; clear n0_ n1_ n2_ n3_; have hcz29_0 : w28.cell? ⟨gb118, 0, none⟩ = some (.int .i64 ((rd_T133 zs x45_2).f0)) := (blk_cell BK118.out 0).trans rfl; have hcz29_1 : w28.cell? ⟨gb118, 1, none⟩ = some (.int .i64 ((rd_T133 zs x45_2).f1)) := (blk_cell BK118.out 1).trans rfl; have hfz29_0 := blk_frozen BK118.out 0; have hfz29_1 := blk_frozen BK118.out 1; obtain ⟨Ao30, co30, eo30⟩ := Kd.R_slice HO_7.out; subst eo30) | ((with_reducible refine gate_callee (f := 92) rfl ?_); refine goesL_ (some 54) rfl rfl Tryd.func92 (by kernel_rfl) rfl #[.slice Ao30 x7_2.length co30, .int .i64 ((rd_T133 zs x45_2).f0), .int .i64 ((rd_T133 zs x45_2).f1)] rfl (by (try simp only [List.map_toArray, List.map_cons, List.map_nil]); first | done | rfl | (simp only [List.length_drop, List.length_take]; rfl)) ?_; (with_reducible refine (span_add.calls (fun k_ => some k_ = (.slice Ao30 x7_2.length co30 : Value).ownBlock) (.slice Ao30 x7_2.length co30) x7_2 ((rd_T133 zs x45_2).f0) ((rd_T133 zs x45_2).f1) t119 w _ ?side1 ?side2 A25.out).mono ?_); (case side1 => repeat (first | (with_reducible first | exact HB.out | apply below_alloc | apply pw_below_drewN | apply below_drew1 | refine below_set ?_ GE118.out) | exact HB.out)); (case side2 => exact Kd.R_tight rfl HO_7.out); rintro e w31 ⟨v120, rfl, ho0, hb, hkp⟩; refine ⟨_, rfl, ?_⟩; have n0_ := Aside0.mk (Kd.R_mono (ok' := fun k_ => k_ ≠ gb118 ∧ some k_ ≠ (v120 : Value).ownBlock) (Kd.R_keptB (HO_43.out) hkp (fun k_ hk_ hs_ => (hk_.1) hs_)) (fun k_ hk_ => ⟨hk_.1.2, fun e_ => Or.elim (ho0.1 k_ e_.symm) (fun hs_ => hk_.2.1 hs_) (fun hn_ => Nat.not_le.2 hk_.2.2 hn_)⟩)); have n1_ := Aside0.mk (blk_kept (by (with_reducible repeat (first | refine blk_drewN ?_ _ | refine blk_drew ?_ | refine blk_alloc ?_ _)); exact BK118.out) hkp (fun hs_ => (fun e_ => (Kd.R_away HO_7.out (fun _ hk => hk.2)) e_) hs_)); have n2_ := Aside0.mk (Kd.R_mono (ok' := fun k_ => some k_ ≠ (.slice (some ad117) zs.length ccp : Value).ownBlock ∧ k_ ≠ gb118) ho0 (fun k_ hk_ => ⟨Or.elim hk_ (fun hs_ => fun e_ => (((HO_43.out).1 k_ e_.symm).1) hs_) (fun hn_ => (Kd.fresh' (Kd.R_lt (by (with_reducible repeat (first | apply Kd.R_alloc | apply Kd.R_drewN | apply Kd.R_drew)); exact HO_43.out)) k_ hn_)), Or.elim hk_ (fun hs_ => fun e_ => (Kd.R_away HO_7.out (fun _ hk => hk.2)) (by rw [← e_]; exact hs_)) (fun hn_ => (Kd.freshB (g := gb118) (o := .cells #[.int .i64 ((rd_T133 zs x45_2).f0), .int .i64 ((rd_T133 zs x45_2).f1)] 133 (0, 0)) (by (with_reducible repeat (first | refine blk_drewN ?_ _ | refine blk_drew ?_ | refine blk_alloc ?_ _)); exact BK118.out) k_ hn_))⟩)); have n3_ := Aside0.mk (hb); clear HO_43; clear BK118; clear HB; clear HO_7; have HO_43 := n0_; have BK118 := n1_; have HO121 := n2_; have HB := n3_; clear n0_ n1_ n2_ n3_; (try clear hb); (try clear hkp); (try clear ho0)))
            go_roundg k2
            case measure => have := HK1.out; have := HK2.out; omega
            case rel => exact ⟨(t119), (wrap64 (x45_2 + 1)), (by first | rfl | (simp; done) | (simp [*]; done)), H', ⟨by have := HK1.out; have := HK2.out; omega⟩, ⟨by (with_reducible repeat (first | apply Kd.R_alloc | apply Kd.R_drewN | apply Kd.R_drew)); exact Kd.R_mono HO121.out (fun _ hk => hk.1)⟩, ⟨by (with_reducible repeat (first | apply Kd.R_alloc | apply Kd.R_drewN | apply Kd.R_drew)); exact Kd.R_mono HO_43.out (fun _ hk => hk.2)⟩, ⟨by repeat (first | (with_reducible first | exact HB.out | apply below_alloc | apply pw_below_drewN | apply below_drew1 | refine below_set ?_ GE118.out) | exact HB.out)⟩⟩
           ·rw [if_neg c24] at H
            exact absurd H (by simp)
          ·rw [if_neg c23] at H
           exact absurd H (by simp)
         ·rw [if_neg c22] at H
          have c22b0 : decide (x45_2 < (zs.length : Int)) = false := decide_eq_false c22
          clear c22
          replace H := Option.bind_eq_some_iff.mp H
          obtain ⟨⟨t122, t125⟩, A320, H⟩ := H
          replace H : (some (t122, t125)) = some (r1, r2) := H
          have A32 := Aside0.mk A320
          clear A320
          simp only [Option.some.injEq, Prod.mk.injEq] at H
          obtain ⟨rfl, rfl⟩ := H
          obtain ⟨Ao33, co33, eo33⟩ := Kd.R_slice HO_7.out
          subst eo33
          go_wp2_with (first | ((with_reducible refine gate_callee (f := 93) rfl ?_); refine goesL_ (some 57) rfl rfl Tryd.func93 (by kernel_rfl) rfl #[.slice Ao33 x7_2.length co33] rfl (by (try simp only [List.map_toArray, List.map_cons, List.map_nil]); first | done | rfl | (simp only [List.length_drop, List.length_take]; rfl)) ?_; (with_reducible refine (span_bounded.calls (fun k_ => some k_ = (.slice Ao33 x7_2.length co33 : Value).ownBlock) (.slice Ao33 x7_2.length co33) x7_2 t122 t125 w _ ?side1 ?side2 A32.out).mono ?_); (case side1 => repeat (first | (with_reducible first | exact HB.out | apply below_alloc | apply pw_below_drewN | apply below_drew1) | exact HB.out)); (case side2 => exact Kd.R_tight rfl HO_7.out); rintro e w34 ⟨v123, rfl, ho0, hb, hkp⟩; refine ⟨_, rfl, ?_⟩; have n0_ := Aside0.mk (Kd.R_mono (ok' := fun k_ => some k_ ≠ (v123 : Value).ownBlock) (Kd.R_keptB (HO_43.out) hkp (fun k_ hk_ hs_ => (hk_) hs_)) (fun k_ hk_ => fun e_ => Or.elim (ho0.1 k_ e_.symm) (fun hs_ => hk_.2.1 hs_) (fun hn_ => Nat.not_le.2 hk_.2.2 hn_))); have n1_ := Aside0.mk (Kd.R_mono (ok' := fun k_ => some k_ ≠ (.slice Acp zs.length ccp : Value).ownBlock) ho0 (fun k_ hk_ => Or.elim hk_ (fun hs_ => fun e_ => (((HO_43.out).1 k_ e_.symm)) hs_) (fun hn_ => (Kd.fresh' (Kd.R_lt (by (with_reducible repeat (first | apply Kd.R_alloc | apply Kd.R_drewN | apply Kd.R_drew)); exact HO_43.out)) k_ hn_)))); have n2_ := Aside0.mk (hb); clear HO_43; clear HB; clear HO_7; have HO_43 := n0_; have HO124 := n1_; have HB := n2_; clear n0_ n1_ n2_; (try clear hb); (try clear hkp); (try clear ho0)))
          go_ret2
          exact ⟨_, by first | rfl | (simp [errW_none, errW_some] <;> rfl) | (simp [*, errW_none, errW_some] <;> rfl), by (with_reducible repeat (first | apply Kd.R_alloc | apply Kd.R_drewN | apply Kd.R_drew)); exact Kd.R_mono HO124.out (fun _ hk => trivial), by repeat (first | (with_reducible first | exact HB.out | apply below_alloc | apply pw_below_drewN | apply below_drew1) | exact HB.out)⟩
      ·rw [if_neg c18] at H
       exact absurd H (by simp)
     ·rw [if_neg c17] at H
      exact absurd H (by simp)
end Go.Proofs.YteeigokkafcaaaaDoor.Pr
end
