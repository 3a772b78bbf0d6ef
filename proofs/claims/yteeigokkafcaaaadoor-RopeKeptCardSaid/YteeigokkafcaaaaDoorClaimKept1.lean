/- Proved: behind every change of a script a rope holds no fewer pieces than runs and no more than those and a sixteenth of the cells, and its levels are within their bounds; for all inputs. -/
import Derived.Lib.MapLaws
import Derived.Laws.RangeAny
import Derived.Lib.OthersKept
import Derived.Lib.RuneBytes
import Derived.Below
import Derived.WalkKit
import Derived.KernelRfl
import Derived.IntWalk
import Derived.Test.YteeigokkafcaaaaDoorProg
import Derived.Tactics
import Derived.Deep.RegionWith
import Derived.Deep.RegionHeld3
import Derived.Deep.DeepCutAuto
import Derived.Deep.DrawnRows
import Derived.Lib.Hide
import Derived.Laws.NewBlocks
import Derived.Deep.Draws
import Derived.Deep.AppendLies
import Derived.Maps.AppendAt
import Derived.OwnWalk
import Derived.Laws.BytesArg
import Derived.Laws.MakeOwn
import Derived.Laws.OwnMore
import Derived.Deep.OwnRows
import Derived.Lib.ConvBytes
import Derived.Laws.Slices
import Derived.RowKit3
import Derived.Deep.LoopGhost
import Derived.Deep.QuietTactic
import Derived.BigQuiet
import Derived.WideLaws
import Derived.Deep.CutBlock
import Derived.Laws.Rows
import Derived.Lib.AppendStr
import Derived.ArgAppend
import Derived.Laws.IdiomCopy
import Derived.OrdersHeld
import Derived.Laws.BitsLemmas
import Derived.RowKit
import Derived.LoopTactic
import Derived.Outline
import Derived.Lib.IndexBytes
import Derived.Laws.DeepBits32
import Derived.WalkLawsBesides
import Derived.Test.YteeigokkafcaaaaDoorRows
import Derived.ProofKit
import Derived.LaidMore
import Derived.OpenShut
import Derived.Stop.Joined
import Derived.SizedLaws
import Derived.Deep.Slices
import Derived.ChangeArms
import Derived.DataReads
import Derived.DataElems
import Derived.Test.YteeigokkafcaaaaDoorClaimKeptW0
section
namespace Go.Proofs.YteeigokkafcaaaaDoorRope
open Go.Lib
set_option linter.unusedSimpArgs false
set_option linter.unusedVariables false
def Rn (r : Int) : Prop := 0 ≤ r ∧ r ≤ 1114111 ∧ ¬ (55296 ≤ r ∧ r ≤ 57343)
def utf (l : List Int) : List UInt8 := l.flatMap encodeRune
def txt (l : List Int) : ByteArray := ⟨(utf l).toArray⟩
def wid (r : Int) : Nat := (encodeRune r).length
theorem u8n {x : Int} (h0 : 0 ≤ x) (h1 : x < 256) : (x.toNat.toUInt8).toNat = x.toNat := by
  simp; omega
theorem decode_utf {r : Int} (h : Rn r) (t : List UInt8) : decodeL (encodeRune r ++ t) = (r.toNat, wid r) := by
  obtain ⟨h0, h1, h2⟩ := h
  rw [decodeL_N, wid]
  by_cases c1 : r ≤ 127
  · have e : encodeRune r = [r.toNat.toUInt8] := by rw [encodeRune, encodeRuneZ_one h0 c1]; rfl
    rw [e]
    simp only [List.cons_append, List.nil_append, List.getD_cons_zero, List.length_cons, List.length_nil]
    rw [u8n h0 (by omega)]
    unfold decodeN
    rw [if_pos (by omega)]
  · by_cases c2 : r ≤ 2047
    · have e : encodeRune r = [(192 + r / 64).toNat.toUInt8, (128 + r % 64).toNat.toUInt8] := by rw [encodeRune, encodeRuneZ_two (by omega) c2]; rfl
      rw [e]
      simp only [List.cons_append, List.nil_append, List.getD_cons_zero, List.getD_cons_succ, List.length_cons, List.length_nil]
      rw [u8n (x := 192 + r / 64) (by omega) (by omega), u8n (x := 128 + r % 64) (by omega) (by omega)]
      unfold decodeN
      rw [if_neg (by omega), if_pos ⟨by omega, by omega, by omega⟩, if_pos (by omega)]
      exact Prod.ext (by dsimp only; omega) rfl
    · by_cases c3 : r ≤ 65535
      · have e : encodeRune r = [(224 + r / 4096).toNat.toUInt8, (128 + r / 64 % 64).toNat.toUInt8, (128 + r % 64).toNat.toUInt8] := by rw [encodeRune, encodeRuneZ_three (by omega)]; rfl
        rw [e]
        simp only [List.cons_append, List.nil_append, List.getD_cons_zero, List.getD_cons_succ, List.length_cons, List.length_nil]
        rw [u8n (x := 224 + r / 4096) (by omega) (by omega), u8n (x := 128 + r / 64 % 64) (by omega) (by omega), u8n (x := 128 + r % 64) (by omega) (by omega)]
        unfold decodeN
        rw [if_neg (by omega), if_neg (by omega), if_pos ⟨by omega, ⟨by omega, by omega⟩, by omega, by omega⟩, if_pos ⟨by omega, by omega⟩]
        exact Prod.ext (by dsimp only; omega) rfl
      · have e : encodeRune r = [(240 + r / 262144).toNat.toUInt8, (128 + r / 4096 % 64).toNat.toUInt8, (128 + r / 64 % 64).toNat.toUInt8, (128 + r % 64).toNat.toUInt8] := by rw [encodeRune, encodeRuneZ_four (by omega) (by omega)]; rfl
        rw [e]
        simp only [List.cons_append, List.nil_append, List.getD_cons_zero, List.getD_cons_succ, List.length_cons, List.length_nil]
        rw [u8n (x := 240 + r / 262144) (by omega) (by omega), u8n (x := 128 + r / 4096 % 64) (by omega) (by omega), u8n (x := 128 + r / 64 % 64) (by omega) (by omega), u8n (x := 128 + r % 64) (by omega) (by omega)]
        unfold decodeN
        rw [if_neg (by omega), if_neg (by omega), if_neg (by omega), if_pos ⟨by omega, ⟨by omega, by omega⟩, ⟨by omega, by omega⟩, by omega, by omega⟩, if_pos ⟨by omega, by omega⟩]
        exact Prod.ext (by dsimp only; omega) rfl
theorem wid_pos (r : Int) : 1 ≤ wid r ∧ wid r ≤ 4 := by
  have := encodeRuneZ_length r
  simpa [wid, encodeRune] using this
theorem utf_append (a b : List Int) : utf (a ++ b) = utf a ++ utf b := by simp [utf]
theorem utf_cons (r : Int) (b : List Int) : utf (r :: b) = encodeRune r ++ utf b := by simp [utf]
theorem utf_len (l : List Int) : l.length ≤ (utf l).length ∧ (utf l).length ≤ 4 * l.length := by
  induction l with
  | nil => simp [utf]
  | cons r l ih =>
    rw [utf_cons, List.length_append, List.length_cons]
    have := wid_pos r
    unfold wid at this
    omega
theorem txt_size (l : List Int) : (txt l).size = (utf l).length := by simp [txt, ByteArray.size]
theorem txt_list (l : List Int) : (txt l).data.toList = utf l := by simp [txt]
theorem txt_append (a b : List Int) : txt (a ++ b) = txt a ++ txt b := by
  apply ByteArray.ext
  apply Array.ext'
  simp [txt, utf_append]
theorem decode_txt {a : List Int} {r : Int} {b : List Int} (h : Rn r) : Utf8.decode (txt (a ++ r :: b)) (utf a).length = (r.toNat, wid r) := by
  rw [← decodeL_drop, txt_list, utf_append, List.drop_left, utf_cons]
  exact decode_utf h _
theorem txt_lt {a : List Int} {r : Int} {b : List Int} : (utf a).length < (txt (a ++ r :: b)).size := by
  rw [txt_size, utf_append, utf_cons, List.length_append, List.length_append]
  have := wid_pos r
  unfold wid at this
  omega
theorem utf_snoc (a : List Int) (r : Int) : (utf (a ++ [r])).length = (utf a).length + wid r := by
  rw [utf_append, List.length_append, wid]
  simp [utf]
theorem txt_end (a : List Int) : ¬ (utf a).length < (txt a).size := by rw [txt_size]; omega
end Go.Proofs.YteeigokkafcaaaaDoorRope
end
section
namespace Go.Proofs.YteeigokkafcaaaaDoorRope
open Go.RowKit Go.Proofs.YteeigokkafcaaaaDoorW.PrintWords Go.Proofs.YteeigokkafcaaaaDoorW.PrintMore
set_option linter.unusedVariables false
inductive Tree where
  | nil : Tree
  | node (l : Tree) (rs : List Int) (hid : Int) (r : Tree) (plus : Int) : Tree
structure Sm where
  tot : Int
  lv : Int
  mi : Int
  am : Int
  ma : Int
def Sm.with (s t : Sm) : Sm :=
  if t.tot = 0 then s else if s.tot = 0 then t else
    ⟨s.tot + t.tot, s.lv + t.lv, min s.mi t.mi, (if s.mi = min s.mi t.mi then s.am else 0) + (if t.mi = min s.mi t.mi then t.am else 0), max s.ma t.ma⟩
def Sm.lifted (s : Sm) (by_ : Int) : Sm := { s with mi := s.mi + by_, ma := s.ma + by_ }
def Sm.one (rs : List Int) (hid : Int) : Sm := ⟨rs.length, 1, hid, rs.length, hid⟩
namespace Tree
def sm : Tree → Sm
  | nil => ⟨0, 0, 0, 0, 0⟩
  | node l rs hid r plus => (((sm l).with (Sm.one rs hid)).with (sm r)).lifted plus
def ht : Tree → Nat
  | nil => 0
  | node l _ _ r _ => 1 + max (ht l) (ht r)
def size : Tree → Nat
  | nil => 0
  | node l _ _ r _ => size l + 1 + size r
def cells : Tree → List (Int × Int)
  | nil => []
  | node l rs hid r plus => (cells l ++ rs.map (fun c => (c, hid)) ++ cells r).map (fun c => (c.1, c.2 + plus))
def lift : Tree → Int → Tree
  | nil, _ => nil
  | node l rs hid r plus, b => node l rs hid r (plus + b)
@[simp] theorem size_lift (t : Tree) (b : Int) : (t.lift b).size = t.size := by cases t <;> rfl
@[simp] theorem ht_lift (t : Tree) (b : Int) : (t.lift b).ht = t.ht := by cases t <;> rfl
theorem cells_lift (t : Tree) (b : Int) : (t.lift b).cells = t.cells.map (fun c => (c.1, c.2 + b)) := by
  cases t with
  | nil => rfl
  | node l rs hid r plus =>
    simp only [lift, cells, List.map_map]
    congr 1
    funext c
    simp only [Function.comp, Int.add_assoc]
def Good : Tree → Int → Prop
  | nil, _ => True
  | node l rs hid r plus, A => rs ≠ [] ∧ 0 ≤ hid ∧ hid ≤ 1048577 ∧ 0 ≤ hid + plus + A ∧ hid + plus + A ≤ 1048577 ∧ ht l ≤ ht r + 1 ∧ ht r ≤ ht l + 1 ∧ Good l (plus + A) ∧ Good r (plus + A)
theorem Good.lift {t : Tree} {b A : Int} (h : Good t (b + A)) : Good (t.lift b) A := by
  cases t with
  | nil => trivial
  | node l rs hid r plus =>
    obtain ⟨h1, h2, h3, h4, h5, h6, h7, h8, h9⟩ := h
    exact ⟨h1, h2, h3, by omega, by omega, h6, h7, by rwa [Int.add_assoc], by rwa [Int.add_assoc]⟩
end Tree
def InHid (cs : List (Int × Int)) (A : Int) : Prop := ∀ c ∈ cs, 0 ≤ c.2 + A ∧ c.2 + A ≤ 1048577
theorem Tree.Good.cells {t : Tree} : ∀ {A : Int}, t.Good A → InHid t.cells A := by
  induction t with
  | nil => intro A _ c hc; cases hc
  | node l rs hid r plus ihl ihr =>
    rintro A ⟨_, _, _, h4, h5, _, _, h8, h9⟩ c hc
    simp only [Tree.cells, List.mem_map, List.mem_append] at hc
    obtain ⟨d, hd, rfl⟩ := hc
    show 0 ≤ d.2 + plus + A ∧ d.2 + plus + A ≤ 1048577
    rcases hd with (hd | ⟨c, _, rfl⟩) | hd
    · have := ihl h8 d hd; omega
    · exact ⟨h4, h5⟩
    · have := ihr h9 d hd; omega
structure SumsOf (s : Sm) (cs : List (Int × Int)) : Prop where
  tot : s.tot = cs.length
  lo : ∀ c ∈ cs, s.mi ≤ c.2 ∧ c.2 ≤ s.ma
  at_ : s.am = (cs.filter (fun c => c.2 == s.mi)).length
  some_ : cs ≠ [] → (∃ c ∈ cs, c.2 = s.mi) ∧ (∃ c ∈ cs, c.2 = s.ma)
  none_ : cs = [] → s.mi = 0 ∧ s.ma = 0
theorem SumsOf.with {s t : Sm} {a b : List (Int × Int)} (hs : SumsOf s a) (ht : SumsOf t b) : SumsOf (s.with t) (a ++ b) := by
  unfold Sm.with
  by_cases c1 : t.tot = 0
  · rw [if_pos c1]
    have : b = [] := List.eq_nil_of_length_eq_zero (by have := ht.tot; omega)
    subst this
    simpa using hs
  · rw [if_neg c1]
    have hbne : b ≠ [] := fun e => c1 (by rw [ht.tot, e]; rfl)
    by_cases c2 : s.tot = 0
    · rw [if_pos c2]
      have : a = [] := List.eq_nil_of_length_eq_zero (by have := hs.tot; omega)
      subst this
      simpa using ht
    · rw [if_neg c2]
      have hane : a ≠ [] := fun e => c2 (by rw [hs.tot, e]; rfl)
      obtain ⟨⟨x, hx, ex⟩, ⟨x', hx', ex'⟩⟩ := hs.some_ hane
      obtain ⟨⟨y, hy, ey⟩, ⟨y', hy', ey'⟩⟩ := ht.some_ hbne
      refine ⟨?_, ?_, ?_, ?_, ?_⟩
      · show s.tot + t.tot = _
        rw [hs.tot, ht.tot, List.length_append]; omega
      · intro c hc
        show min s.mi t.mi ≤ c.2 ∧ c.2 ≤ max s.ma t.ma
        rcases List.mem_append.1 hc with hc | hc
        · have := hs.lo c hc; omega
        · have := ht.lo c hc; omega
      · show (if s.mi = min s.mi t.mi then s.am else 0) + (if t.mi = min s.mi t.mi then t.am else 0) = _
        rw [List.filter_append, List.length_append]
        have one : ∀ (u : Sm) (l : List (Int × Int)) (m : Int), SumsOf u l → m ≤ u.mi → ((l.filter (fun c => c.2 == m)).length : Int) = if u.mi = m then u.am else 0 := by
          intro u l m hu hm
          by_cases c : u.mi = m
          · rw [if_pos c, hu.at_, c]
          · rw [if_neg c]
            have : l.filter (fun c => c.2 == m) = [] := by
              rw [List.filter_eq_nil_iff]
              intro d hd
              have := hu.lo d hd
              simp; omega
            rw [this]; rfl
        rw [Int.natCast_add, one s a (min s.mi t.mi) hs (by omega), one t b (min s.mi t.mi) ht (by omega)]
      · intro _
        constructor
        · by_cases c : s.mi ≤ t.mi
          · exact ⟨x, List.mem_append_left _ hx, by show x.2 = min s.mi t.mi; omega⟩
          · exact ⟨y, List.mem_append_right _ hy, by show y.2 = min s.mi t.mi; omega⟩
        · by_cases c : t.ma ≤ s.ma
          · exact ⟨x', List.mem_append_left _ hx', by show x'.2 = max s.ma t.ma; omega⟩
          · exact ⟨y', List.mem_append_right _ hy', by show y'.2 = max s.ma t.ma; omega⟩
      · intro h; exact absurd (List.append_eq_nil_iff.1 h).1 hane
theorem SumsOf.lifted {s : Sm} {a : List (Int × Int)} (hs : SumsOf s a) (hne : a ≠ []) (b : Int) : SumsOf (s.lifted b) (a.map (fun c => (c.1, c.2 + b))) := by
  refine ⟨?_, ?_, ?_, ?_, ?_⟩
  · show s.tot = _; rw [hs.tot, List.length_map]
  · intro c hc
    obtain ⟨d, hd, rfl⟩ := List.mem_map.1 hc
    have := hs.lo d hd
    show s.mi + b ≤ d.2 + b ∧ d.2 + b ≤ s.ma + b
    omega
  · show s.am = _
    rw [hs.at_, List.filter_map, List.length_map]
    congr 3
    funext c
    simp only [Function.comp, Sm.lifted]
    rw [Bool.eq_iff_iff]; simp
  · intro _
    obtain ⟨⟨x, hx, ex⟩, ⟨x', hx', ex'⟩⟩ := hs.some_ hne
    exact ⟨⟨(x.1, x.2 + b), List.mem_map.2 ⟨x, hx, rfl⟩, by show x.2 + b = s.mi + b; omega⟩, ⟨(x'.1, x'.2 + b), List.mem_map.2 ⟨x', hx', rfl⟩, by show x'.2 + b = s.ma + b; omega⟩⟩
  · intro h; exact absurd (List.map_eq_nil_iff.1 h) hne
theorem SumsOf.one {rs : List Int} (h : rs ≠ []) (hid : Int) : SumsOf (Sm.one rs hid) (rs.map (fun c => (c, hid))) := by
  refine ⟨by simp [Sm.one], ?_, ?_, ?_, ?_⟩
  · intro c hc
    obtain ⟨d, _, rfl⟩ := List.mem_map.1 hc
    simp [Sm.one]
  · show (rs.length : Int) = _
    rw [List.filter_eq_self.2 (fun c hc => by obtain ⟨d, _, rfl⟩ := List.mem_map.1 hc; simp [Sm.one]), List.length_map]
  · intro _
    obtain ⟨x, l, rfl⟩ := List.exists_cons_of_ne_nil h
    exact ⟨⟨(x, hid), by simp, rfl⟩, ⟨(x, hid), by simp, rfl⟩⟩
  · intro e; exact absurd (List.map_eq_nil_iff.1 e) h
theorem Tree.Good.ne {l : Tree} {rs : List Int} {hid : Int} {r : Tree} {plus A : Int} (h : (Tree.node l rs hid r plus).Good A) : (Tree.node l rs hid r plus).cells ≠ [] := by
  intro e
  have := (List.append_eq_nil_iff.1 (List.append_eq_nil_iff.1 (List.map_eq_nil_iff.1 e)).1).2
  exact h.1 (List.map_eq_nil_iff.1 this)
theorem Tree.Good.sums {t : Tree} : ∀ {A : Int}, t.Good A → SumsOf t.sm t.cells := by
  induction t with
  | nil => intro A _; exact ⟨rfl, by simp [Tree.cells], rfl, by simp [Tree.cells], fun _ => ⟨rfl, rfl⟩⟩
  | node l rs hid r plus ihl ihr =>
    intro A h
    obtain ⟨h1, _, _, _, _, _, _, h8, h9⟩ := h
    exact SumsOf.lifted (((ihl h8).with (SumsOf.one h1 hid)).with (ihr h9)) (fun e => h1 (List.map_eq_nil_iff.1 (List.append_eq_nil_iff.1 (List.append_eq_nil_iff.1 e).1).2)) plus
theorem Tree.Good.lv {t : Tree} : ∀ {A : Int}, t.Good A → t.sm.lv = t.size := by
  induction t with
  | nil => intro A _; rfl
  | node l rs hid r plus ihl ihr =>
    rintro A ⟨h1, _, _, _, _, _, _, h8, h9⟩
    have e1 := ihl h8
    have e2 := ihr h9
    have t1 := h8.sums.tot
    have t2 := h9.sums.tot
    have hz : ∀ (x : Tree) (B : Int), x.Good B → x.sm.tot = 0 → x.size = 0 := fun x B hx h0 => by
      cases x with
      | nil => rfl
      | node a b c d e =>
        have h := hx.sums.tot
        exact absurd (List.eq_nil_of_length_eq_zero (by omega)) hx.ne
    have hr : rs.length ≠ 0 := fun e => h1 (List.eq_nil_of_length_eq_zero e)
    show (((l.sm.with (Sm.one rs hid)).with r.sm).lifted plus).lv = ((l.size + 1 + r.size : Nat) : Int)
    have w1 : (l.sm.with (Sm.one rs hid)).lv = l.size + 1 ∧ (l.sm.with (Sm.one rs hid)).tot ≠ 0 := by
      unfold Sm.with
      rw [if_neg (by simp [Sm.one]; omega)]
      by_cases c : l.sm.tot = 0
      · rw [if_pos c, hz l _ h8 c]; exact ⟨rfl, by simp [Sm.one]; omega⟩
      · rw [if_neg c]
        exact ⟨by show l.sm.lv + 1 = _; omega, by show l.sm.tot + (rs.length : Int) ≠ 0; omega⟩
    show ((l.sm.with (Sm.one rs hid)).with r.sm).lv = _
    generalize l.sm.with (Sm.one rs hid) = q at w1
    unfold Sm.with
    by_cases c : r.sm.tot = 0
    · rw [if_pos c, w1.1, hz r _ h9 c]; omega
    · rw [if_neg c, if_neg w1.2]
      show q.lv + r.sm.lv = _
      omega
abbrev RunesAt (W : World) (A : Option Addr) (l : List Int) : Prop := Kd.C (Kd.int .i32) W A l.length l
def nodeCells (t : Tree) (vl vr : Value) (A : Option Addr) (c : Nat) : Array Value :=
  match t with
  | .nil => #[]
  | .node _ rs hid _ plus => #[.int .i64 t.sm.tot, .int .i64 t.sm.lv, .int .i64 t.ht, .int .i64 t.sm.mi, .int .i64 t.sm.am, .int .i64 t.sm.ma, vl, vr, .slice A rs.length c, .int .i64 hid, .int .i64 plus]
theorem add_block (a : Addr) (i : Nat) : (a.add i).block = a.block := by
  unfold Addr.add
  by_cases h : i = 0 <;> simp [h]
theorem RunesAt.move {W W' : World} {A : Option Addr} {l : List Int} (h : RunesAt W A l) (hm : ∀ ad, A = some ad → ad.block < W.heap.size → W'.heap[ad.block]? = W.heap[ad.block]?) : RunesAt W' A l :=
  ⟨h.1, h.2.1, fun hn => by
    obtain ⟨ad, e, hc⟩ := h.2.2 hn
    refine ⟨ad, e, fun j p hj => ?_⟩
    obtain ⟨c, hs, hr, hcell⟩ := hc j p hj
    refine ⟨c, hs, hr, fun i u hu => ?_⟩
    have hlt := World.block_lt_of_cell? W _ (hcell i u hu)
    rw [add_block] at hlt
    rw [World.cell?_of_block (w := W) (by rw [add_block]; exact hm ad e hlt)]
    exact hcell i u hu⟩
def KU (K : Nat → Prop) (n : Nat) : Nat → Prop := fun k => K k ∨ n ≤ k
def Rep (K : Nat → Prop) (W : World) : Tree → Value → Prop
  | .nil, v => v = .pointer none
  | .node l rs hid r plus, v => ∃ a vl vr A c, v = .pointer (some ⟨a, 0, none⟩) ∧ W.heap[a]? = some (.cells (nodeCells (.node l rs hid r plus) vl vr A c) 153 (0, 0)) ∧ K a ∧ rs.length ≤ c ∧ RunesAt W A rs ∧ (∀ ad, A = some ad → K ad.block) ∧ Rep K W l vl ∧ Rep K W r vr
theorem Rep.move {K : Nat → Prop} {t : Tree} : ∀ {W W' : World} {v : Value}, Rep K W t v → (∀ k, K k → k < W.heap.size → W'.heap[k]? = W.heap[k]?) → Rep K W' t v := by
  induction t with
  | nil => intro W W' v h _; exact h
  | node l rs hid r plus ihl ihr =>
    rintro W W' v ⟨a, vl, vr, A, c, rfl, hh, ha, hc, hr, hA, h1, h2⟩ hm
    have hlt := (Array.getElem?_eq_some_iff.1 hh).1
    exact ⟨a, vl, vr, A, c, rfl, (hm a ha hlt).trans hh, ha, hc, hr.move (fun ad e h => hm _ (hA ad e) h), hA, ihl h1 hm, ihr h2 hm⟩
theorem Rep.below {K : Nat → Prop} {t : Tree} {W W' : World} {v : Value} (h : Rep K W t v) (hb : Below W.heap.size W W') : Rep K W' t v := h.move (fun k _ hk => hb.block k hk)
theorem Rep.ptr {K : Nat → Prop} {W : World} {t : Tree} {v : Value} (h : Rep K W t v) : ∃ p, v = .pointer p := by
  cases t with
  | nil => exact ⟨_, h⟩
  | node l rs hid r plus =>
    obtain ⟨a, vl, vr, A, c, rfl, _⟩ := h
    exact ⟨_, rfl⟩
theorem KU.sub {K : Nat → Prop} {n m : Nat} (h : m ≤ n) : ∀ k, KU K n k → KU K m k := fun k hk => hk.elim .inl (fun h' => .inr (Nat.le_trans h h'))
theorem KU.of {K : Nat → Prop} {n : Nat} : ∀ k, K k → KU K n k := fun _ h => .inl h
theorem Rep.mono {K K' : Nat → Prop} (hK : ∀ k, K k → K' k) {W : World} {t : Tree} : ∀ {v : Value}, Rep K W t v → Rep K' W t v := by
  induction t with
  | nil => intro v h; exact h
  | node l rs hid r plus ihl ihr =>
    rintro v ⟨a, vl, vr, A, c, rfl, hh, ha, hc, hr, hA, h1, h2⟩
    exact ⟨a, vl, vr, A, c, rfl, hh, hK a ha, hc, hr, fun ad e => hK _ (hA ad e), ihl h1, ihr h2⟩
end Go.Proofs.YteeigokkafcaaaaDoorRope
end
section
namespace Go.Proofs.YteeigokkafcaaaaDoorRope
open Go.RowKit Go.Proofs.YteeigokkafcaaaaDoorW.PrintWords Go.Proofs.YteeigokkafcaaaaDoorW.PrintMore
set_option linter.unusedSimpArgs false
set_option linter.unusedVariables false
theorem w64 {n : Int} (h0 : -9223372036854775808 ≤ n) (h1 : n ≤ 9223372036854775807) : wrap64 n = n := IntWalk.wrap64_in n ⟨h0, h1⟩
def smVal (s : Sm) (h : Int) : Value := .agg #[.int .i64 s.tot, .int .i64 s.lv, .int .i64 h, .int .i64 s.mi, .int .i64 s.am, .int .i64 s.ma]
theorem node_cell {W : World} {a : Nat} {l r : Tree} {rs : List Int} {hid plus : Int} {vl vr : Value} {A : Option Addr} {c : Nat} (h : W.heap[a]? = some (.cells (nodeCells (.node l rs hid r plus) vl vr A c) 153 (0, 0))) {i : Nat} {x : Value} (hx : (nodeCells (.node l rs hid r plus) vl vr A c)[i]? = some x) : W.cell? ⟨a, i, none⟩ = some x := by
  simp only [World.cell?, h]
  exact hx
set_option maxRecDepth 100000 in
set_option maxHeartbeats 4000000 in
theorem all_nil (w : World) : Calls Tryd.prog 58 #[.pointer none] w fun e w' => e = .returned (smVal Tree.nil.sm 0) ∧ Below w.heap.size w w' := by
  go_enter Tryd.func58, Tryd.ntmps58
  go_wp2
  exact bodyPost_ret (v := .agg #[.int .i64 0, .int .i64 0, .int .i64 0, .int .i64 0, .int .i64 0, .int .i64 0]) (by simp [results, Tryd.results58, go_sem]) rfl ⟨rfl, ((Below.refl _ w).alloc (Nat.le_refl _) _)⟩
set_option maxRecDepth 100000 in
set_option maxHeartbeats 4000000 in
theorem all_node {w : World} {a : Nat} {t1 t2 t3 t4 t5 t6 : Int} (hlt : a < w.heap.size) (h0 : w.cell? ⟨a, 0, none⟩ = some (.int .i64 t1)) (h1 : w.cell? ⟨a, 1, none⟩ = some (.int .i64 t2)) (h2 : w.cell? ⟨a, 2, none⟩ = some (.int .i64 t3)) (h3 : w.cell? ⟨a, 3, none⟩ = some (.int .i64 t4)) (h4 : w.cell? ⟨a, 4, none⟩ = some (.int .i64 t5)) (h5 : w.cell? ⟨a, 5, none⟩ = some (.int .i64 t6)) :
    Calls Tryd.prog 58 #[.pointer (some ⟨a, 0, none⟩)] w fun e w' => e = .returned (.agg #[.int .i64 t1, .int .i64 t2, .int .i64 t3, .int .i64 t4, .int .i64 t5, .int .i64 t6]) ∧ Below w.heap.size w w' := by
  go_enter Tryd.func58, Tryd.ntmps58
  go_wp2
  exact bodyPost_ret (v := .agg #[.int .i64 t1, .int .i64 t2, .int .i64 t3, .int .i64 t4, .int .i64 t5, .int .i64 t6]) (by simp [results, Tryd.results58, go_sem]) rfl ⟨rfl, by (repeat first | exact Below.refl _ _ | assumption | refine Below.drew ?_ | refine Below.alloc ?_ (by simp; try omega) _ | refine Below.setCell ?_ (by simp; try omega) _)⟩
theorem all_calls {K : Nat → Prop} {w : World} {t : Tree} {v : Value} (h : Rep K w t v) : Calls Tryd.prog 58 #[v] w fun e w' => e = .returned (smVal t.sm t.ht) ∧ Below w.heap.size w w' := by
  cases t with
  | nil => cases h; exact all_nil w
  | node l rs hid r plus =>
    obtain ⟨a, vl, vr, A, c, rfl, hh, _, hc, hr, _, h1, h2⟩ := h
    exact all_node (Array.getElem?_eq_some_iff.1 hh).1 (node_cell hh rfl) (node_cell hh rfl) (node_cell hh rfl) (node_cell hh rfl) (node_cell hh rfl) (node_cell hh rfl)
set_option maxRecDepth 100000 in
set_option maxHeartbeats 4000000 in
theorem lifted_calls (s : Sm) (h b : Int) (hb : -8388608 ≤ b ∧ b ≤ 8388608) (h1 : -8388608 ≤ s.mi ∧ s.mi ≤ 8388608) (h2 : -8388608 ≤ s.ma ∧ s.ma ≤ 8388608) (w : World) :
    Calls Tryd.prog 106 #[smVal s h, .int .i64 b] w fun e w' => e = .returned (smVal (s.lifted b) h) ∧ Below w.heap.size w w' := by
  obtain ⟨t1, t2, t3, t4, t5⟩ := s
  unfold smVal Sm.lifted
  dsimp only at h1 h2 ⊢
  obtain ⟨hb1, hb2⟩ := hb
  obtain ⟨h11, h12⟩ := h1
  obtain ⟨h21, h22⟩ := h2
  go_enter Tryd.func106, Tryd.ntmps106
  go_wp2
  exact bodyPost_ret (v := .agg #[.int .i64 t1, .int .i64 t2, .int .i64 h, .int .i64 (t3 + b), .int .i64 t4, .int .i64 (t5 + b)]) (by simp [results, Tryd.results106, go_sem]) rfl ⟨rfl, by (repeat first | exact Below.refl _ _ | assumption | refine Below.drew ?_ | refine Below.alloc ?_ (by simp; try omega) _ | refine Below.setCell ?_ (by simp; try omega) _)⟩
structure SmFit (s : Sm) : Prop where
  a : 0 ≤ s.tot ∧ s.tot ≤ 1099511627776
  b : 0 ≤ s.lv ∧ s.lv ≤ 1099511627776
  c : -8388608 ≤ s.mi ∧ s.mi ≤ 8388608
  d : 0 ≤ s.am ∧ s.am ≤ 1099511627776
  e : -8388608 ≤ s.ma ∧ s.ma ≤ 8388608
def withHt (s t : Sm) (h k : Int) : Int := if t.tot = 0 then h else if s.tot = 0 then k else 0
set_option maxRecDepth 100000 in
set_option maxHeartbeats 4000000 in
theorem with_calls (s t : Sm) (h k : Int) (hs : SmFit s) (ht : SmFit t) (w : World) : Calls Tryd.prog 126 #[smVal s h, smVal t k] w fun e w' => e = .returned (smVal (s.with t) (withHt s t h k)) ∧ Below w.heap.size w w' := by
  obtain ⟨t1, t2, t3, t4, t5⟩ := s
  obtain ⟨u1, u2, u3, u4, u5⟩ := t
  obtain ⟨⟨a1, a2⟩, ⟨a3, a4⟩, ⟨a5, a6⟩, ⟨a7, a8⟩, ⟨a9, a10⟩⟩ := hs
  obtain ⟨⟨b1, b2⟩, ⟨b3, b4⟩, ⟨b5, b6⟩, ⟨b7, b8⟩, ⟨b9, b10⟩⟩ := ht
  unfold smVal Sm.with withHt
  dsimp only at *
  by_cases c : u1 = 0
  · simp only [if_pos c]
    subst c
    go_enter Tryd.func126, Tryd.ntmps126
    go_wp2
    exact bodyPost_ret (v := .agg #[.int .i64 t1, .int .i64 t2, .int .i64 h, .int .i64 t3, .int .i64 t4, .int .i64 t5]) (by simp [results, Tryd.results126, go_sem]) rfl ⟨rfl, by (repeat first | exact Below.refl _ _ | assumption | refine Below.drew ?_ | refine Below.alloc ?_ (by simp; try omega) _ | refine Below.setCell ?_ (by simp; try omega) _)⟩
  · simp only [if_neg c]
    have c1 : (u1 == 0) = false := by simpa using c
    by_cases d : t1 = 0
    · simp only [if_pos d]
      subst d
      go_enter Tryd.func126, Tryd.ntmps126
      go_wp2
      exact bodyPost_ret (v := .agg #[.int .i64 u1, .int .i64 u2, .int .i64 k, .int .i64 u3, .int .i64 u4, .int .i64 u5]) (by simp [results, Tryd.results126, go_sem]) rfl ⟨rfl, by (repeat first | exact Below.refl _ _ | assumption | refine Below.drew ?_ | refine Below.alloc ?_ (by simp; try omega) _ | refine Below.setCell ?_ (by simp; try omega) _)⟩
    · simp only [if_neg d]
      have d1 : (t1 == 0) = false := by simpa using d
      rcases Int.lt_trichotomy t3 u3 with m | m | m
      · rcases Int.lt_or_le t5 u5 with x | x
        · have m1 : (u3 == t3) = false := by simp; omega
          have m2 : min t3 u3 = t3 := by omega
          have m3 : ¬ u3 = t3 := by omega
          rw [m2, if_pos rfl, if_neg m3]
          have x2 : max t5 u5 = u5 := by omega
          rw [x2]
          go_enter Tryd.func126, Tryd.ntmps126
          go_wp2
          exact bodyPost_ret (v := .agg #[.int .i64 (t1 + u1), .int .i64 (t2 + u2), .int .i64 0, .int .i64 t3, .int .i64 (t4), .int .i64 u5]) (by simp [results, Tryd.results126, go_sem]) rfl ⟨by simp, by (repeat first | exact Below.refl _ _ | assumption | refine Below.drew ?_ | refine Below.alloc ?_ (by simp; try omega) _ | refine Below.setCell ?_ (by simp; try omega) _)⟩
        · have m1 : (u3 == t3) = false := by simp; omega
          have m2 : min t3 u3 = t3 := by omega
          have m3 : ¬ u3 = t3 := by omega
          rw [m2, if_pos rfl, if_neg m3]
          have x2 : max t5 u5 = t5 := by omega
          rw [x2]
          go_enter Tryd.func126, Tryd.ntmps126
          go_wp2
          exact bodyPost_ret (v := .agg #[.int .i64 (t1 + u1), .int .i64 (t2 + u2), .int .i64 0, .int .i64 t3, .int .i64 (t4), .int .i64 t5]) (by simp [results, Tryd.results126, go_sem]) rfl ⟨by simp, by (repeat first | exact Below.refl _ _ | assumption | refine Below.drew ?_ | refine Below.alloc ?_ (by simp; try omega) _ | refine Below.setCell ?_ (by simp; try omega) _)⟩
      · rcases Int.lt_or_le t5 u5 with x | x
        · subst m
          have m2 : min t3 t3 = t3 := by omega
          rw [m2, if_pos rfl, if_pos rfl]
          have x2 : max t5 u5 = u5 := by omega
          rw [x2]
          go_enter Tryd.func126, Tryd.ntmps126
          go_wp2
          exact bodyPost_ret (v := .agg #[.int .i64 (t1 + u1), .int .i64 (t2 + u2), .int .i64 0, .int .i64 t3, .int .i64 (t4 + u4), .int .i64 u5]) (by simp [results, Tryd.results126, go_sem]) rfl ⟨rfl, by (repeat first | exact Below.refl _ _ | assumption | refine Below.drew ?_ | refine Below.alloc ?_ (by simp; try omega) _ | refine Below.setCell ?_ (by simp; try omega) _)⟩
        · subst m
          have m2 : min t3 t3 = t3 := by omega
          rw [m2, if_pos rfl, if_pos rfl]
          have x2 : max t5 u5 = t5 := by omega
          rw [x2]
          go_enter Tryd.func126, Tryd.ntmps126
          go_wp2
          exact bodyPost_ret (v := .agg #[.int .i64 (t1 + u1), .int .i64 (t2 + u2), .int .i64 0, .int .i64 t3, .int .i64 (t4 + u4), .int .i64 t5]) (by simp [results, Tryd.results126, go_sem]) rfl ⟨rfl, by (repeat first | exact Below.refl _ _ | assumption | refine Below.drew ?_ | refine Below.alloc ?_ (by simp; try omega) _ | refine Below.setCell ?_ (by simp; try omega) _)⟩
      · rcases Int.lt_or_le t5 u5 with x | x
        · have m1 : (t3 == u3) = false := by simp; omega
          have m2 : min t3 u3 = u3 := by omega
          have m3 : ¬ t3 = u3 := by omega
          rw [m2, if_neg m3, if_pos rfl]
          have x2 : max t5 u5 = u5 := by omega
          rw [x2]
          go_enter Tryd.func126, Tryd.ntmps126
          go_wp2
          exact bodyPost_ret (v := .agg #[.int .i64 (t1 + u1), .int .i64 (t2 + u2), .int .i64 0, .int .i64 u3, .int .i64 (u4), .int .i64 u5]) (by simp [results, Tryd.results126, go_sem]) rfl ⟨by simp, by (repeat first | exact Below.refl _ _ | assumption | refine Below.drew ?_ | refine Below.alloc ?_ (by simp; try omega) _ | refine Below.setCell ?_ (by simp; try omega) _)⟩
        · have m1 : (t3 == u3) = false := by simp; omega
          have m2 : min t3 u3 = u3 := by omega
          have m3 : ¬ t3 = u3 := by omega
          rw [m2, if_neg m3, if_pos rfl]
          have x2 : max t5 u5 = t5 := by omega
          rw [x2]
          go_enter Tryd.func126, Tryd.ntmps126
          go_wp2
          exact bodyPost_ret (v := .agg #[.int .i64 (t1 + u1), .int .i64 (t2 + u2), .int .i64 0, .int .i64 u3, .int .i64 (u4), .int .i64 t5]) (by simp [results, Tryd.results126, go_sem]) rfl ⟨by simp, by (repeat first | exact Below.refl _ _ | assumption | refine Below.drew ?_ | refine Below.alloc ?_ (by simp; try omega) _ | refine Below.setCell ?_ (by simp; try omega) _)⟩
end Go.Proofs.YteeigokkafcaaaaDoorRope
end
section
namespace Go.Proofs.YteeigokkafcaaaaDoor.Pr
open Go.RowKit Go.Proofs.YteeigokkafcaaaaDoorW.PrintWords Go.Proofs.YteeigokkafcaaaaDoorW.PrintLast Go.Proofs.YteeigokkafcaaaaDoorW.PrintMore
attribute [local go_sem] max2_int min2_int max_two min_two max_three min_three max_four min_four
set_option linter.unusedVariables false
set_option linter.unusedSimpArgs false
def errW : Option Int → Value
 | none => .nilIface
 | some c => .iface 0 (.int .i64 c)
theorem errW_none : errW none = .nilIface := rfl
theorem errW_some (c : Int) : errW (some c) = .iface 0 (.int .i64 c) := rfl
theorem info3 : (Tryd.prog.info? 3).map (fun i => (i.zero, i.size, i.bytes)) = some (some (.int .i64 0), 1, 8) := by kernel_rfl
theorem info5 : (Tryd.prog.info? 5).map (fun i => (i.zero, i.size, i.bytes)) = some (some (.int .u8 0), 1, 1) := by kernel_rfl
theorem info21 : (Tryd.prog.info? 21).map (fun i => (i.zero, i.size, i.bytes)) = some (some (.int .i32 0), 1, 4) := by kernel_rfl
theorem info36 : (Tryd.prog.info? 36).map (fun i => (i.zero, i.size, i.bytes)) = some (some (.agg #[(.int .i32 0), (.int .i64 0)]), 2, 16) := by kernel_rfl
theorem info113 : (Tryd.prog.info? 113).map (fun i => (i.zero, i.size, i.bytes)) = some (some (.agg #[(.slice none 0 0), (.int .i64 0)]), 2, 32) := by kernel_rfl
theorem info133 : (Tryd.prog.info? 133).map (fun i => (i.zero, i.size, i.bytes)) = some (some (.agg #[(.int .i64 0), (.int .i64 0)]), 2, 16) := by kernel_rfl
structure S97 where
 f0 : Int
 f1 : Int
def z97 : S97 := ⟨(0 : Int), (0 : Int)⟩
def k97 : Kd S97 := Kd.iso (Kd.pair (Kd.int .i64) (Kd.int .i64)) (fun x : S97 => (x.f0, x.f1))
theorem k97_open {w : World} {x : S97} {cs : List Value} (h : k97.K w x cs) : cs = [.int .i64 x.f0, .int .i64 x.f1] := by
 obtain ⟨_, _, rfl, rfl, rfl⟩ := h
 exact rfl
theorem k97_openM {w : World} {base : Nat} {ok : Nat → Prop} {x : S97} {cs : List Value} (h : k97.M w base ok x cs) : cs = [.int .i64 x.f0, .int .i64 x.f1] := by
 obtain ⟨_, _, rfl, rfl, rfl⟩ := h
 exact rfl
theorem k97_mk (w : World) (x : S97)  : k97.K w x [.int .i64 x.f0, .int .i64 x.f1] := ⟨[.int .i64 x.f0], [.int .i64 x.f1], rfl, rfl, rfl⟩
theorem k97_mkM (w : World) (base : Nat) (ok : Nat → Prop) (x : S97)  : k97.M w base ok x [.int .i64 x.f0, .int .i64 x.f1] := ⟨[.int .i64 x.f0], [.int .i64 x.f1], rfl, rfl, rfl⟩
theorem k97_mkF (W : World) (ok : Nat → Prop) (x : S97) : Kd.FK k97 W ok x [.int .i64 x.f0, .int .i64 x.f1] := fun W2 _ => k97_mk W2 x
def rd_T97 (xs : List S97) (i : Int) : S97 := xs.getD i.toNat z97
theorem at_T97 {w : World} {A : Option Addr} {n : Nat} {xs : List S97} (h : Kd.C k97 w A n xs) (i : Int) (h0 : 0 ≤ i) (h1 : i < n) : ∃ ad , A = some ad ∧ w.cell? (ad.add (i.toNat * 2)) = some (.int .i64 (rd_T97 xs i).f0) ∧ w.cell? ⟨(ad.add (i.toNat * 2)).block, (ad.add (i.toNat * 2)).off + 1, none⟩ = some (.int .i64 (rd_T97 xs i).f1) := by
 obtain ⟨ad, c, e, _, hK, hc0⟩ := Kd.C_get h z97 i h0 h1
 have hc : ∀ j u, c[j]? = some u → w.cell? (ad.add (i.toNat * 2 + j)) = some u := hc0
 obtain rfl := k97_open hK
 exact ⟨ad, e, hc 0 _ rfl, by rw [← add_field _ _ 1 (by omega)]; exact hc 1 _ rfl⟩
structure S58 where
 f0 : ByteArray
 f1 : Int
def z58 : S58 := ⟨(⟨#[]⟩ : ByteArray), (0 : Int)⟩
def k58 : Kd S58 := Kd.iso (Kd.pair Kd.string (Kd.int .i64)) (fun x : S58 => (x.f0, x.f1))
theorem k58_open {w : World} {x : S58} {cs : List Value} (h : k58.K w x cs) : cs = [.string x.f0, .int .i64 x.f1] := by
 obtain ⟨_, _, rfl, rfl, rfl⟩ := h
 exact rfl
theorem k58_openM {w : World} {base : Nat} {ok : Nat → Prop} {x : S58} {cs : List Value} (h : k58.M w base ok x cs) : cs = [.string x.f0, .int .i64 x.f1] := by
 obtain ⟨_, _, rfl, rfl, rfl⟩ := h
 exact rfl
theorem k58_mk (w : World) (x : S58)  : k58.K w x [.string x.f0, .int .i64 x.f1] := ⟨[.string x.f0], [.int .i64 x.f1], rfl, rfl, rfl⟩
theorem k58_mkM (w : World) (base : Nat) (ok : Nat → Prop) (x : S58)  : k58.M w base ok x [.string x.f0, .int .i64 x.f1] := ⟨[.string x.f0], [.int .i64 x.f1], rfl, rfl, rfl⟩
theorem k58_mkF (W : World) (ok : Nat → Prop) (x : S58) : Kd.FK k58 W ok x [.string x.f0, .int .i64 x.f1] := fun W2 _ => k58_mk W2 x
def rd_T58 (xs : List S58) (i : Int) : S58 := xs.getD i.toNat z58
theorem at_T58 {w : World} {A : Option Addr} {n : Nat} {xs : List S58} (h : Kd.C k58 w A n xs) (i : Int) (h0 : 0 ≤ i) (h1 : i < n) : ∃ ad , A = some ad ∧ w.cell? (ad.add (i.toNat * 2)) = some (.string (rd_T58 xs i).f0) ∧ w.cell? ⟨(ad.add (i.toNat * 2)).block, (ad.add (i.toNat * 2)).off + 1, none⟩ = some (.int .i64 (rd_T58 xs i).f1) := by
 obtain ⟨ad, c, e, _, hK, hc0⟩ := Kd.C_get h z58 i h0 h1
 have hc : ∀ j u, c[j]? = some u → w.cell? (ad.add (i.toNat * 2 + j)) = some u := hc0
 obtain rfl := k58_open hK
 exact ⟨ad, e, hc 0 _ rfl, by rw [← add_field _ _ 1 (by omega)]; exact hc 1 _ rfl⟩
structure S36 where
 f0 : Int
 f1 : Int
def z36 : S36 := ⟨(0 : Int), (0 : Int)⟩
def k36 : Kd S36 := Kd.iso (Kd.pair (Kd.int .i32) (Kd.int .i64)) (fun x : S36 => (x.f0, x.f1))
theorem k36_open {w : World} {x : S36} {cs : List Value} (h : k36.K w x cs) : cs = [.int .i32 x.f0, .int .i64 x.f1] := by
 obtain ⟨_, _, rfl, rfl, rfl⟩ := h
 exact rfl
theorem k36_openM {w : World} {base : Nat} {ok : Nat → Prop} {x : S36} {cs : List Value} (h : k36.M w base ok x cs) : cs = [.int .i32 x.f0, .int .i64 x.f1] := by
 obtain ⟨_, _, rfl, rfl, rfl⟩ := h
 exact rfl
theorem k36_mk (w : World) (x : S36)  : k36.K w x [.int .i32 x.f0, .int .i64 x.f1] := ⟨[.int .i32 x.f0], [.int .i64 x.f1], rfl, rfl, rfl⟩
theorem k36_mkM (w : World) (base : Nat) (ok : Nat → Prop) (x : S36)  : k36.M w base ok x [.int .i32 x.f0, .int .i64 x.f1] := ⟨[.int .i32 x.f0], [.int .i64 x.f1], rfl, rfl, rfl⟩
theorem k36_mkF (W : World) (ok : Nat → Prop) (x : S36) : Kd.FK k36 W ok x [.int .i32 x.f0, .int .i64 x.f1] := fun W2 _ => k36_mk W2 x
def rd_T36 (xs : List S36) (i : Int) : S36 := xs.getD i.toNat z36
theorem at_T36 {w : World} {A : Option Addr} {n : Nat} {xs : List S36} (h : Kd.C k36 w A n xs) (i : Int) (h0 : 0 ≤ i) (h1 : i < n) : ∃ ad , A = some ad ∧ w.cell? (ad.add (i.toNat * 2)) = some (.int .i32 (rd_T36 xs i).f0) ∧ w.cell? ⟨(ad.add (i.toNat * 2)).block, (ad.add (i.toNat * 2)).off + 1, none⟩ = some (.int .i64 (rd_T36 xs i).f1) := by
 obtain ⟨ad, c, e, _, hK, hc0⟩ := Kd.C_get h z36 i h0 h1
 have hc : ∀ j u, c[j]? = some u → w.cell? (ad.add (i.toNat * 2 + j)) = some u := hc0
 obtain rfl := k36_open hK
 exact ⟨ad, e, hc 0 _ rfl, by rw [← add_field _ _ 1 (by omega)]; exact hc 1 _ rfl⟩
def rd_L6 (xs : List (List Int)) (i : Int) : (List Int) := xs.getD i.toNat ([] : List Int)
theorem at_L6 {w : World} {A : Option Addr} {n : Nat} {xs : List (List Int)} (h : Kd.C (Kd.slice 21 (Kd.int .i32)) w A n xs) (i : Int) (h0 : 0 ≤ i) (h1 : i < n) : ∃ ad A0 c0, A = some ad ∧ w.cell? (ad.add i.toNat) = some (.slice A0 (rd_L6 xs i).length c0) ∧ (rd_L6 xs i).length ≤ c0 ∧ (Kd.int .i32).C w A0 (rd_L6 xs i).length (rd_L6 xs i) := by
 obtain ⟨ad, c, e, _, hK, hc0⟩ := Kd.C_get h ([] : List Int) i h0 h1
 have hc : ∀ j u, c[j]? = some u → w.cell? (ad.add (i.toNat * 1 + j)) = some u := hc0
 obtain ⟨A0, c0, rfl, l0, g0⟩ := hK
 exact ⟨ad, A0, c0, e, by have hq := hc 0 _ rfl; rwa [Nat.mul_one, Nat.add_zero] at hq, l0, g0⟩
structure S113 where
 f0 : (List Int)
 f1 : Int
def z113 : S113 := ⟨([] : List Int), (0 : Int)⟩
def k113 : Kd S113 := Kd.iso (Kd.pair (Kd.slice 21 (Kd.int .i32)) (Kd.int .i64)) (fun x : S113 => (x.f0, x.f1))
theorem k113_open {w : World} {x : S113} {cs : List Value} (h : k113.K w x cs) : ∃ A0 c0, cs = [.slice A0 x.f0.length c0, .int .i64 x.f1] ∧ x.f0.length ≤ c0 ∧ (Kd.int .i32).C w A0 x.f0.length x.f0 := by
 obtain ⟨_, _, rfl, ⟨A0, c0, rfl, l0, g0⟩, rfl⟩ := h
 exact ⟨A0, c0, rfl, l0, g0⟩
theorem k113_openM {w : World} {base : Nat} {ok : Nat → Prop} {x : S113} {cs : List Value} (h : k113.M w base ok x cs) : ∃ v0, cs = [v0, .int .i64 x.f1] ∧ (Kd.int .i32).R 21 w base ok v0 x.f0 := by
 obtain ⟨_, _, rfl, ⟨v0, rfl, g0⟩, rfl⟩ := h
 exact ⟨v0, rfl, g0⟩
theorem k113_mk (w : World) (x : S113) {A0 : Option Addr} {c0 : Nat} (l0 : x.f0.length ≤ c0) (g0 : (Kd.int .i32).C w A0 x.f0.length x.f0) : k113.K w x [.slice A0 x.f0.length c0, .int .i64 x.f1] := ⟨[.slice A0 x.f0.length c0], [.int .i64 x.f1], rfl, ⟨A0, c0, rfl, l0, g0⟩, rfl⟩
theorem k113_mkM (w : World) (base : Nat) (ok : Nat → Prop) (x : S113) {v0 : Value} (g0 : (Kd.int .i32).R 21 w base ok v0 x.f0) : k113.M w base ok x [v0, .int .i64 x.f1] := ⟨[v0], [.int .i64 x.f1], rfl, ⟨v0, rfl, g0⟩, rfl⟩
theorem k113_openF {W : World} {ok : Nat → Prop} {x : S113} {cs : List Value} (h : Kd.FK k113 W ok x cs) : ∃ A0 c0, cs = [.slice A0 x.f0.length c0, .int .i64 x.f1] ∧ x.f0.length ≤ c0 ∧ Kd.F (Kd.int .i32) W ok A0 x.f0.length x.f0 := by
 obtain ⟨A0, c0, rfl, l0, _⟩ := k113_open (Kd.FK_now h)
 exact ⟨A0, c0, rfl, l0, (fun W' hW => by obtain ⟨A0_, c0_, he, l0_, g0_⟩ := k113_open (h W' hW); injection (Option.some.inj (show some (Value.slice A0 x.f0.length c0) = some (Value.slice A0_ x.f0.length c0_) from congrArg (fun l => l[0]?) he)) with ha_ _ _; rw [ha_]; exact g0_)⟩
theorem k113_mkF (W : World) (ok : Nat → Prop) (x : S113) {A0 : Option Addr} {c0 : Nat} (l0 : x.f0.length ≤ c0) (g0 : Kd.F (Kd.int .i32) W ok A0 x.f0.length x.f0) : Kd.FK k113 W ok x [.slice A0 x.f0.length c0, .int .i64 x.f1] := fun W2 hW => k113_mk W2 x l0 (g0 W2 hW)
def rd_T113 (xs : List S113) (i : Int) : S113 := xs.getD i.toNat z113
theorem at_T113 {w : World} {A : Option Addr} {n : Nat} {xs : List S113} (h : Kd.C k113 w A n xs) (i : Int) (h0 : 0 ≤ i) (h1 : i < n) : ∃ ad A0 c0, A = some ad ∧ w.cell? (ad.add (i.toNat * 2)) = some (.slice A0 (rd_T113 xs i).f0.length c0) ∧ w.cell? ⟨(ad.add (i.toNat * 2)).block, (ad.add (i.toNat * 2)).off + 1, none⟩ = some (.int .i64 (rd_T113 xs i).f1) ∧ (rd_T113 xs i).f0.length ≤ c0 ∧ (Kd.int .i32).C w A0 (rd_T113 xs i).f0.length (rd_T113 xs i).f0 := by
 obtain ⟨ad, c, e, _, hK, hc0⟩ := Kd.C_get h z113 i h0 h1
 have hc : ∀ j u, c[j]? = some u → w.cell? (ad.add (i.toNat * 2 + j)) = some u := hc0
 obtain ⟨A0, c0, rfl, l0, g0⟩ := k113_open hK
 exact ⟨ad, A0, c0, e, hc 0 _ rfl, by rw [← add_field _ _ 1 (by omega)]; exact hc 1 _ rfl, l0, g0⟩
structure S133 where
 f0 : Int
 f1 : Int
def z133 : S133 := ⟨(0 : Int), (0 : Int)⟩
def k133 : Kd S133 := Kd.iso (Kd.pair (Kd.int .i64) (Kd.int .i64)) (fun x : S133 => (x.f0, x.f1))
theorem k133_open {w : World} {x : S133} {cs : List Value} (h : k133.K w x cs) : cs = [.int .i64 x.f0, .int .i64 x.f1] := by
 obtain ⟨_, _, rfl, rfl, rfl⟩ := h
 exact rfl
theorem k133_openM {w : World} {base : Nat} {ok : Nat → Prop} {x : S133} {cs : List Value} (h : k133.M w base ok x cs) : cs = [.int .i64 x.f0, .int .i64 x.f1] := by
 obtain ⟨_, _, rfl, rfl, rfl⟩ := h
 exact rfl
theorem k133_mk (w : World) (x : S133)  : k133.K w x [.int .i64 x.f0, .int .i64 x.f1] := ⟨[.int .i64 x.f0], [.int .i64 x.f1], rfl, rfl, rfl⟩
theorem k133_mkM (w : World) (base : Nat) (ok : Nat → Prop) (x : S133)  : k133.M w base ok x [.int .i64 x.f0, .int .i64 x.f1] := ⟨[.int .i64 x.f0], [.int .i64 x.f1], rfl, rfl, rfl⟩
theorem k133_mkF (W : World) (ok : Nat → Prop) (x : S133) : Kd.FK k133 W ok x [.int .i64 x.f0, .int .i64 x.f1] := fun W2 _ => k133_mk W2 x
def rd_T133 (xs : List S133) (i : Int) : S133 := xs.getD i.toNat z133
theorem at_T133 {w : World} {A : Option Addr} {n : Nat} {xs : List S133} (h : Kd.C k133 w A n xs) (i : Int) (h0 : 0 ≤ i) (h1 : i < n) : ∃ ad , A = some ad ∧ w.cell? (ad.add (i.toNat * 2)) = some (.int .i64 (rd_T133 xs i).f0) ∧ w.cell? ⟨(ad.add (i.toNat * 2)).block, (ad.add (i.toNat * 2)).off + 1, none⟩ = some (.int .i64 (rd_T133 xs i).f1) := by
 obtain ⟨ad, c, e, _, hK, hc0⟩ := Kd.C_get h z133 i h0 h1
 have hc : ∀ j u, c[j]? = some u → w.cell? (ad.add (i.toNat * 2 + j)) = some u := hc0
 obtain rfl := k133_open hK
 exact ⟨ad, e, hc 0 _ rfl, by rw [← add_field _ _ 1 (by omega)]; exact hc 1 _ rfl⟩
def rd_L10 (xs : List (List S133)) (i : Int) : (List S133) := xs.getD i.toNat ([] : List S133)
theorem at_L10 {w : World} {A : Option Addr} {n : Nat} {xs : List (List S133)} (h : Kd.C (Kd.slice 133 k133) w A n xs) (i : Int) (h0 : 0 ≤ i) (h1 : i < n) : ∃ ad A0 c0, A = some ad ∧ w.cell? (ad.add i.toNat) = some (.slice A0 (rd_L10 xs i).length c0) ∧ (rd_L10 xs i).length ≤ c0 ∧ k133.C w A0 (rd_L10 xs i).length (rd_L10 xs i) := by
 obtain ⟨ad, c, e, _, hK, hc0⟩ := Kd.C_get h ([] : List S133) i h0 h1
 have hc : ∀ j u, c[j]? = some u → w.cell? (ad.add (i.toNat * 1 + j)) = some u := hc0
 obtain ⟨A0, c0, rfl, l0, g0⟩ := hK
 exact ⟨ad, A0, c0, e, by have hq := hc 0 _ rfl; rwa [Nat.mul_one, Nat.add_zero] at hq, l0, g0⟩
def rd_L11 (xs : List (List S58)) (i : Int) : (List S58) := xs.getD i.toNat ([] : List S58)
theorem at_L11 {w : World} {A : Option Addr} {n : Nat} {xs : List (List S58)} (h : Kd.C (Kd.slice 58 k58) w A n xs) (i : Int) (h0 : 0 ≤ i) (h1 : i < n) : ∃ ad A0 c0, A = some ad ∧ w.cell? (ad.add i.toNat) = some (.slice A0 (rd_L11 xs i).length c0) ∧ (rd_L11 xs i).length ≤ c0 ∧ k58.C w A0 (rd_L11 xs i).length (rd_L11 xs i) := by
 obtain ⟨ad, c, e, _, hK, hc0⟩ := Kd.C_get h ([] : List S58) i h0 h1
 have hc : ∀ j u, c[j]? = some u → w.cell? (ad.add (i.toNat * 1 + j)) = some u := hc0
 obtain ⟨A0, c0, rfl, l0, g0⟩ := hK
 exact ⟨ad, A0, c0, e, by have hq := hc 0 _ rfl; rwa [Nat.mul_one, Nat.add_zero] at hq, l0, g0⟩
end Go.Proofs.YteeigokkafcaaaaDoor.Pr
end
section
namespace Go.Proofs.YteeigokkafcaaaaDoorRope
open Go.RowKit Go.Proofs.YteeigokkafcaaaaDoorW.PrintWords Go.Proofs.YteeigokkafcaaaaDoorW.PrintMore
set_option linter.unusedSimpArgs false
set_option linter.unusedVariables false
def IterAt (W : World) (B : Nat) (l : List Int) (k : Nat) : Prop := W.heap[B]? = some (.stringIter (txt l) (utf (l.take k)).length)
def NextAt (W W1 : World) (B : Nat) (l : List Int) (k : Nat) (p : Nat) (r : Int) : Prop :=
  (∃ h : k < l.length, r = l[k]) ∧ p = (utf (l.take k)).length ∧ IterAt W1 B l (k + 1) ∧ (∀ j, j ≠ B → W1.heap[j]? = W.heap[j]?) ∧ W1.heap.size = W.heap.size ∧ (∀ {n : Nat} {a : World}, Below n a W → n ≤ B → Below n a W1)
theorem take_snoc' {l : List Int} {k : Nat} (h : k < l.length) : l.take (k + 1) = l.take k ++ [l[k]] := by
  rw [List.take_succ_eq_append_getElem h]
theorem split_at {l : List Int} {k : Nat} (h : k < l.length) : l = l.take k ++ l[k] :: l.drop (k + 1) := by
  rw [← List.drop_eq_getElem_cons h, List.take_append_drop]
theorem next_txt {P : Program} {W : World} {B : Nat} {l : List Int} {k : Nat} (hl : ∀ r ∈ l, Rn r) (hk : IterAt W B l k) (hlt : k < l.length) :
    ∃ W1 p r, (∀ ty, (Instr.next (.pointer (some ⟨B, 0, none⟩)) true ty).run P W = .ok (.tuple #[.bool true, .int .i64 (p : Nat), .int .i32 r]) W1) ∧ NextAt W W1 B l k p r := by
  have hr : Rn l[k] := hl _ (List.getElem_mem hlt)
  have hp : (utf (l.take k)).length < (txt l).size := by
    have := txt_lt (a := l.take k) (r := l[k]) (b := l.drop (k + 1))
    rwa [← split_at hlt] at this
  have hd : Utf8.decode (txt l) (utf (l.take k)).length = ((l[k]).toNat, wid l[k]) := by
    have := decode_txt (a := l.take k) (r := l[k]) (b := l.drop (k + 1)) hr
    rwa [← split_at hlt] at this
  have hs : (utf (l.take k)).length + wid l[k] = (utf (l.take (k + 1))).length := by rw [take_snoc' hlt, utf_snoc]
  refine ⟨W.iterAt B (txt l) ((utf (l.take k)).length + wid l[k]), _, l[k], fun ty => ?_, ⟨hlt, rfl⟩, rfl, ?_, fun j hj => Lib.iterAt_other _ _ _ _ _ hj, Lib.iterAt_size _ _ _ _, fun hb hn => Lib.below_iterAt hb hn _ _⟩
  · rw [Lib.run_next_any_at W B (txt l) _ ty hk hp, hd]
    have : (((l[k]).toNat : Nat) : Int) = l[k] := Int.toNat_of_nonneg hr.1
    rw [this]
  · unfold IterAt
    rw [← hs]
    exact Lib.iterAt_heap W B (txt l) _ _ hk
theorem next_txt_end {P : Program} {W : World} {B : Nat} {l : List Int} {k : Nat} (hk : IterAt W B l k) (hge : l.length ≤ k) (ty : TypeId) :
    (Instr.next (.pointer (some ⟨B, 0, none⟩)) true ty).run P W = .ok (.tuple #[.bool false]) W := by
  refine Lib.run_next_end_at W B (txt l) _ ty hk ?_
  rw [List.take_of_length_le hge]
  exact txt_end l
theorem iter_start (w : World) (l : List Int) : IterAt (w.iter (txt l) 0) w.heap.size l 0 := by
  unfold IterAt
  simpa [utf] using World.iter_heap w (txt l) 0
def leftOf (W : World) (B : Nat) (l : List Int) : Nat := (txt l).size - W.iterPos B
theorem left_at {W : World} {B : Nat} {l : List Int} {k : Nat} (h : IterAt W B l k) : leftOf W B l = (utf l).length - (utf (l.take k)).length := by
  unfold leftOf World.iterPos
  rw [h, txt_size]
theorem left_less {W W1 : World} {B : Nat} {l : List Int} {k : Nat} (h : IterAt W B l k) (h1 : IterAt W1 B l (k + 1)) (hlt : k < l.length) : leftOf W1 B l < leftOf W B l := by
  rw [left_at h, left_at h1, take_snoc' hlt, utf_snoc]
  have := wid_pos l[k]
  have h3 : (utf (l.take k)).length < (txt l).size := by
    have := txt_lt (a := l.take k) (r := l[k]) (b := l.drop (k + 1))
    rwa [← split_at hlt] at this
  rw [txt_size] at h3
  omega
theorem IterAt.below {W W1 : World} {B : Nat} {l : List Int} {k : Nat} (h : IterAt W B l k) (hb : Below W.heap.size W W1) : IterAt W1 B l k := (hb.block B (new_lt' h)).trans h
  where new_lt' {W : World} {g : Nat} {o : Obj} (h : W.heap[g]? = some o) : g < W.heap.size := (Array.getElem?_eq_some_iff.1 h).1
theorem IterAt.grown {W W1 : World} {B : Nat} {l : List Int} {k : Nat} {row : Option Nat} (h : IterAt W B l k) (hg : W.grownBy W1 row) (hne : some B ≠ row) : IterAt W1 B l k := (hg.block B (IterAt.below.new_lt' h) hne).trans h
set_option maxRecDepth 100000 in
set_option maxHeartbeats 4000000 in
theorem runesOf_calls (l : List Int) (hl : ∀ r ∈ l, Rn r) (hn : l.length ≤ 1073741824) (w : World) :
    Calls Tryd.prog 56 #[.string (txt l)] w fun e w' => ∃ v, e = .returned v ∧ (Kd.int .i32).R 21 w' w.heap.size (fun k => w.heap.size < k) v l ∧ Below w.heap.size w w' := by
  have hk0 := iter_start w l
  have hb0 : Below w.heap.size w (w.iter (txt l) 0) := (Below.refl _ w).alloc (Nat.le_refl _) _
  go_enter Tryd.func56, Tryd.ntmps56
  go_wp2
  go_loopw [3] (fun v wr => ∃ k : Nat, k ≤ l.length ∧ IterAt wr w.heap.size l k ∧ (Kd.int .i32).R 21 wr w.heap.size (fun k => w.heap.size < k) v (l.take k) ∧ Below w.heap.size w wr)
    (fun _ wr => leftOf wr w.heap.size l)
  case atStart => exact ⟨0, Nat.zero_le _, hk0, Kd.R_nil _ _ _ _ _, hb0⟩
  case round =>
    obtain ⟨k, hkl, hk, hR, hB⟩ := hrel
    clear hk0 hb0
    by_cases hlt : k < l.length
    · obtain ⟨W1, p, r, hnext, ⟨hx, hr⟩, hp, hi1, ho1, hs1, hbl1⟩ := next_txt (P := Tryd.prog) hl hk hlt
      have hR1 : (Kd.int .i32).R 21 W1 w.heap.size (fun k => w.heap.size < k) _ (l.take k) := Kd.R_step hR (fun j hj _ => ho1 j (by omega))
      have hB1 := hbl1 hB (Nat.le_refl _)
      have HM : leftOf wr w.heap.size l = leftOf wr w.heap.size l := rfl
      have HK := Lib.hid hk
      have HR := Lib.hid hr
      have HI := Lib.hid hi1
      clear hk hp ho1 hbl1 HM hR hB hi1 hr
      have hz1 : w.heap.size < W1.heap.size := IterAt.below.new_lt' HI.out
      clear hs1
      go_wp2_with ((with_reducible refine gate_builtin (b := .append) (xs := #[.tmp 11, .tmp 13]) rfl ?_); at_builtin; refine Kd.R_append (Kd.int .i32) (w0 := w) w.heap.size rfl (.tmp 11) (.tmp 13) 103 21 (.int .i32 0) 4 rfl Tryd.underlying103 (by kernel_rfl) rfl (by decide) (by decide) _ (l.take k) r [.int .i32 r] (fun k => w.heap.size < k) (fun _ => False) rfl rfl ?aP (fun _ h => h.elim) ?aF hR1 hB1 (Nat.le_of_lt hz1) ?aL ?_; (case aP => exact rfl); (case aF => exact fun k hk => by omega); (case aL => rw [List.length_take]; omega); intro v1 w1 hR2 hB2 hg2 hat2)
      have hI2 : IterAt w1 w.heap.size l (k + 1) := HI.out.grown hg2 (fun e => Nat.lt_irrefl _ (hR1.1 _ e.symm))
      have hR3 : (Kd.int .i32).R 21 w1 w.heap.size (fun k => w.heap.size < k) v1 (l.take (k + 1)) := by rw [take_snoc' hlt, ← HR.out]; exact hR2
      have hm := left_less HK.out hI2 hlt
      clear hR1 hR2 hB1 hz1
      go_wp2
      go_roundw
      case rel => exact ⟨k + 1, hlt, hI2, hR3, hB2⟩
      case measure => exact hm
    · have hnext := fun ty => next_txt_end (P := Tryd.prog) hk (by omega) ty
      rw [List.take_of_length_le (by omega)] at hR
      go_wp2
      go_ret
      exact ⟨_, rfl, hR, hB⟩
end Go.Proofs.YteeigokkafcaaaaDoorRope
end
section
namespace Go.Proofs.YteeigokkafcaaaaDoor.Pr
open Go.RowKit Go.Proofs.YteeigokkafcaaaaDoorW.PrintWords Go.Proofs.YteeigokkafcaaaaDoorW.PrintLast Go.Proofs.YteeigokkafcaaaaDoorW.PrintMore
attribute [local go_sem] max2_int min2_int max_two min_two max_three min_three max_four min_four
set_option linter.unusedVariables false
set_option linter.unusedSimpArgs false
def redraftlaw03_rest.f (a0 : Int) (a1 : Int) : Option (Int) := if a1 = 0 then (none) else (some (Int.tmod (wrap64 ((Int.tmod a0 a1) + a1)) a1))
set_option maxHeartbeats 8000000 in
set_option maxRecDepth 100000 in
theorem redraftlaw03_rest.calls (a0 : Int) (a1 : Int) (r : Int) (w : World) (h : redraftlaw03_rest.f a0 a1 = some r) :
  Calls Tryd.prog 28 #[.int .i64 a0, .int .i64 a1] w fun e w' => e = .returned (.int .i64 r) ∧ Drawn0 w w' := by
 have H : (if a1 = 0 then (none) else (some (Int.tmod (wrap64 ((Int.tmod a0 a1) + a1)) a1))) = some r := h
 clear h
 by_cases c3 : a1 = 0
 ·rw [if_pos c3] at H
  exact absurd H (by simp)
 ·rw [if_neg c3] at H
  have c3b0 : (a1 == 0) = false := beq_eq_false_iff_ne.mpr c3
  have c3b1 : (a1 != 0) = true := bne_iff_ne.mpr c3
  obtain rfl := Option.some.inj H
  go_enter Tryd.func28, Tryd.ntmps28
  go_wp2
  go_ret
  exact ⟨by first | rfl | (simp; done) | (simp [*]; done), by repeat (first | exact Drawn0.refl _ | apply Drawn0.step)⟩
def redraftlaw03_sign.f (a0 : Int) : Option (Int) := (redraftlaw03_rest.f a0 5).bind fun t101 => (if t101 = 1 then (some 233) else (if t101 = 2 then (some 8364) else (if t101 = 3 then (some 128512) else ((redraftlaw03_rest.f a0 26).bind fun t102 => (some (wrap32 (wrap64 (97 + t102))))))))
set_option maxHeartbeats 8000000 in
set_option maxRecDepth 100000 in
theorem redraftlaw03_sign.calls (a0 : Int) (r : Int) (w : World) (h : redraftlaw03_sign.f a0 = some r) :
  Calls Tryd.prog 69 #[.int .i64 a0] w fun e w' => e = .returned (.int .i32 r) ∧ Drawn0 w w' := by
 have H : ((redraftlaw03_rest.f a0 5).bind fun t101 => (if t101 = 1 then (some 233) else (if t101 = 2 then (some 8364) else (if t101 = 3 then (some 128512) else ((redraftlaw03_rest.f a0 26).bind fun t102 => (some (wrap32 (wrap64 (97 + t102))))))))) = some r := h
 clear h
 replace H := Option.bind_eq_some_iff.mp H
 obtain ⟨t101, A20, H⟩ := H
 replace H : (if t101 = 1 then (some 233) else (if t101 = 2 then (some 8364) else (if t101 = 3 then (some 128512) else ((redraftlaw03_rest.f a0 26).bind fun t102 => (some (wrap32 (wrap64 (97 + t102)))))))) = some r := H
 have A2 := Aside0.mk A20
 clear A20
 by_cases c3 : t101 = 1
 ·rw [if_pos c3] at H
  have c3b0 : (t101 == 1) = true := beq_iff_eq.mpr c3
  have c3b1 : (t101 != 1) = false := bne_eq_false_iff_eq.mpr c3
  clear c3
  obtain rfl := Option.some.inj H
  go_enter Tryd.func69, Tryd.ntmps69
  go_wp2_with (first | ((with_reducible refine gate_callee (f := 28) rfl ?_); refine goesL_ (some 4) rfl rfl Tryd.func28 (by kernel_rfl) rfl #[.int .i64 a0, .int .i64 5] rfl (by (try simp only [List.map_toArray, List.map_cons, List.map_nil]); first | done | rfl | (simp only [List.length_drop, List.length_take]; rfl)) ?_; (with_reducible refine (redraftlaw03_rest.calls a0 5 t101 _ A2.out).mono ?_); rintro e w' ⟨rfl, ⟨nd, rfl⟩⟩; refine ⟨_, rfl, ?_⟩))
  go_ret
  exact ⟨by first | rfl | (simp; done) | (simp [*]; done), by repeat (first | exact Drawn0.refl _ | apply Drawn0.step)⟩
 ·rw [if_neg c3] at H
  have c3b0 : (t101 == 1) = false := beq_eq_false_iff_ne.mpr c3
  have c3b1 : (t101 != 1) = true := bne_iff_ne.mpr c3
  by_cases c4 : t101 = 2
  ·rw [if_pos c4] at H
   have c4b0 : (t101 == 2) = true := beq_iff_eq.mpr c4
   have c4b1 : (t101 != 2) = false := bne_eq_false_iff_eq.mpr c4
   clear c4
   obtain rfl := Option.some.inj H
   go_enter Tryd.func69, Tryd.ntmps69
   go_wp2_with (first | ((with_reducible refine gate_callee (f := 28) rfl ?_); refine goesL_ (some 4) rfl rfl Tryd.func28 (by kernel_rfl) rfl #[.int .i64 a0, .int .i64 5] rfl (by (try simp only [List.map_toArray, List.map_cons, List.map_nil]); first | done | rfl | (simp only [List.length_drop, List.length_take]; rfl)) ?_; (with_reducible refine (redraftlaw03_rest.calls a0 5 t101 _ A2.out).mono ?_); rintro e w' ⟨rfl, ⟨nd, rfl⟩⟩; refine ⟨_, rfl, ?_⟩))
   go_ret
   exact ⟨by first | rfl | (simp; done) | (simp [*]; done), by repeat (first | exact Drawn0.refl _ | apply Drawn0.step)⟩
  ·rw [if_neg c4] at H
   have c4b0 : (t101 == 2) = false := beq_eq_false_iff_ne.mpr c4
   have c4b1 : (t101 != 2) = true := bne_iff_ne.mpr c4
   by_cases c5 : t101 = 3
   ·rw [if_pos c5] at H
    have c5b0 : (t101 == 3) = true := beq_iff_eq.mpr c5
    have c5b1 : (t101 != 3) = false := bne_eq_false_iff_eq.mpr c5
    clear c5
    obtain rfl := Option.some.inj H
    go_enter Tryd.func69, Tryd.ntmps69
    go_wp2_with (first | ((with_reducible refine gate_callee (f := 28) rfl ?_); refine goesL_ (some 4) rfl rfl Tryd.func28 (by kernel_rfl) rfl #[.int .i64 a0, .int .i64 5] rfl (by (try simp only [List.map_toArray, List.map_cons, List.map_nil]); first | done | rfl | (simp only [List.length_drop, List.length_take]; rfl)) ?_; (with_reducible refine (redraftlaw03_rest.calls a0 5 t101 _ A2.out).mono ?_); rintro e w' ⟨rfl, ⟨nd, rfl⟩⟩; refine ⟨_, rfl, ?_⟩))
    go_ret
    exact ⟨by first | rfl | (simp; done) | (simp [*]; done), by repeat (first | exact Drawn0.refl _ | apply Drawn0.step)⟩
   ·rw [if_neg c5] at H
    have c5b0 : (t101 == 3) = false := beq_eq_false_iff_ne.mpr c5
    have c5b1 : (t101 != 3) = true := bne_iff_ne.mpr c5
    replace H := Option.bind_eq_some_iff.mp H
    obtain ⟨t102, A60, H⟩ := H
    replace H : (some (wrap32 (wrap64 (97 + t102)))) = some r := H
    have A6 := Aside0.mk A60
    clear A60
    obtain rfl := Option.some.inj H
    go_enter Tryd.func69, Tryd.ntmps69
    go_wp2_with (first | ((with_reducible refine gate_callee (f := 28) rfl ?_); refine goesL_ (some 4) rfl rfl Tryd.func28 (by kernel_rfl) rfl #[.int .i64 a0, .int .i64 5] rfl (by (try simp only [List.map_toArray, List.map_cons, List.map_nil]); first | done | rfl | (simp only [List.length_drop, List.length_take]; rfl)) ?_; (with_reducible refine (redraftlaw03_rest.calls a0 5 t101 _ A2.out).mono ?_); rintro e w' ⟨rfl, ⟨nd, rfl⟩⟩; refine ⟨_, rfl, ?_⟩) | ((with_reducible refine gate_callee (f := 28) rfl ?_); refine goesL_ (some 12) rfl rfl Tryd.func28 (by kernel_rfl) rfl #[.int .i64 a0, .int .i64 26] rfl (by (try simp only [List.map_toArray, List.map_cons, List.map_nil]); first | done | rfl | (simp only [List.length_drop, List.length_take]; rfl)) ?_; (with_reducible refine (redraftlaw03_rest.calls a0 26 t102 _ A6.out).mono ?_); rintro e w' ⟨rfl, ⟨nd, rfl⟩⟩; refine ⟨_, rfl, ?_⟩))
    go_ret
    exact ⟨by first | rfl | (simp; done) | (simp [*]; done), by repeat (first | exact Drawn0.refl _ | apply Drawn0.step)⟩
def redraftlaw03_shown.l0 : Nat → List (S36) → Int → Int → Int → Option (Int)
 | 0, _, _, _, _ => none
 | k + 1, x0, x1, x5, x6 => if x6 < x1 then (if 0 ≤ x6 then (if x6 < (x0.length : Int) then (if ((rd_T36 x0 x6).f1) = 0 then (redraftlaw03_shown.l0 k x0 x1 (wrap64 (x5 + 1)) (wrap64 (x6 + 1))) else (redraftlaw03_shown.l0 k x0 x1 x5 (wrap64 (x6 + 1)))) else (none)) else (none)) else (some x5)
def redraftlaw03_shown.f (k : Nat) (l0 : List (S36)) (a1 : Int) : Option (Int) := redraftlaw03_shown.l0 k l0 a1 0 0
theorem redraftlaw03_shown.mono_l : ∀ k, (∀ y0 y1 y2 y3, LeO (redraftlaw03_shown.l0 k y0 y1 y2 y3) (redraftlaw03_shown.l0 (k + 1) y0 y1 y2 y3))
 | 0 => fun _ _ _ _ r h => by simp [redraftlaw03_shown.l0] at h
 | k + 1 => by
  have ih0 := redraftlaw03_shown.mono_l k
  ·intro y0 y1 y2 y3
   unfold redraftlaw03_shown.l0
   repeat' first
   | (with_reducible exact ih0 _ _ _ _)
   | (with_reducible exact LeO.refl _)
   | (with_reducible exact LeO.none _)
   | (with_reducible refine LeO.ite ?_ ?_)
   | (with_reducible refine LeO.bind ?_ (fun _ => ?_))
   | exact ih0 _ _ _ _
   | exact LeO.none _
   | refine LeO.ite ?_ ?_
   | refine LeO.bind ?_ (fun _ => ?_)
theorem redraftlaw03_shown.mono : ∀ a0 a1 k, LeO (redraftlaw03_shown.f k a0 a1) (redraftlaw03_shown.f (k + 1) a0 a1) := by
 intro a0 a1 k
 have ih0 := redraftlaw03_shown.mono_l k
 unfold redraftlaw03_shown.f
 repeat' first
   | (with_reducible exact ih0 _ _ _ _)
   | (with_reducible exact LeO.refl _)
   | (with_reducible exact LeO.none _)
   | (with_reducible refine LeO.ite ?_ ?_)
   | (with_reducible refine LeO.bind ?_ (fun _ => ?_))
   | exact ih0 _ _ _ _
   | exact LeO.none _
   | refine LeO.ite ?_ ?_
   | refine LeO.bind ?_ (fun _ => ?_)
set_option maxHeartbeats 8000000 in
set_option maxRecDepth 100000 in
theorem redraftlaw03_shown.calls (k : Nat) (A0 : Option Addr) (c0 : Nat) (l0 : List (S36)) (a1 : Int) (r : Int) (w : World) (hr0 : Kd.C k36 w A0 l0.length l0) (hc0 : l0.length ≤ c0) (h : redraftlaw03_shown.f k l0 a1 = some r) :
  Calls Tryd.prog 17 #[.slice A0 l0.length c0, .int .i64 a1] w fun e w' => e = .returned (.int .i64 r) ∧ Drawn0 w w' := by
 have HR0 := Aside0.mk hr0
 have HC0 := Aside0.mk hc0
 clear hr0 hc0
 have H : (redraftlaw03_shown.l0 k l0 a1 0 0) = some r := h
 clear h
 have H' := Aside0.mk H
 clear H
 go_enter Tryd.func17, Tryd.ntmps17
 go_wp2
 go_loopg [5, 6] k (fun kq v5 v6 w' => ∃ (x5_1 : Int) (x6_1 : Int), v5 = .int .i64 x5_1 ∧ v6 = .int .i64 x6_1 ∧ Aside0 (redraftlaw03_shown.l0 kq l0 a1 x5_1 x6_1 = some r) ∧ Aside0 (kq ≤ k) ∧ Drawn0 w w')
 case atStart => exact ⟨(0), (0), (by first | rfl | (simp; done) | (simp [*]; done)), (by first | rfl | (simp; done) | (simp [*]; done)), H', ⟨Nat.le_refl _⟩, by repeat (first | exact Drawn0.refl _ | apply Drawn0.step)⟩
 case round =>
  clear H'
  try clear c1
  try clear p2
  obtain ⟨x5_1, x6_1, rfl, rfl, HA, HK1, ⟨m1, rfl⟩⟩ := hrel
  cases gk with
  | zero => exact absurd HA.out (by simp [redraftlaw03_shown.l0])
  | succ k1 =>
   have H := HA.out
   clear HA
   simp only [redraftlaw03_shown.l0] at H
   by_cases c3 : x6_1 < a1
   ·rw [if_pos c3] at H
    have c3b0 : decide (x6_1 < a1) = true := decide_eq_true c3
    clear c3
    by_cases c4 : 0 ≤ x6_1
    ·rw [if_pos c4] at H
     have c4b0 : decide (0 ≤ x6_1) = true := decide_eq_true c4
     clear c4
     by_cases c5 : x6_1 < (l0.length : Int)
     ·rw [if_pos c5] at H
      have c5b0 : decide (x6_1 < (l0.length : Int)) = true := decide_eq_true c5
      clear c5
      by_cases c6 : ((rd_T36 l0 x6_1).f1) = 0
      ·rw [if_pos c6] at H
       have c6b0 : (((rd_T36 l0 x6_1).f1) == 0) = true := beq_iff_eq.mpr c6
       have c6b1 : (((rd_T36 l0 x6_1).f1) != 0) = false := bne_eq_false_iff_eq.mpr c6
       clear c6
       have H' := Aside0.mk H
       clear H
       have p111 : 0 ≤ (x6_1 : Int) := of_decide_eq_true (by first | (with_reducible assumption) | assumption)
       have q111 : x6_1 < (l0.length : Int) := of_decide_eq_true (by first | (with_reducible assumption) | assumption)
       obtain ⟨ad111, e111, hx111_0, hx111_1⟩ := at_T36 HR0.out x6_1 p111 q111
       cases e111
       replace p111 := eq_true p111
       replace q111 := eq_true q111
       go_wp2
       go_roundg k1
       case measure => have := HK1.out; omega
       case rel => exact ⟨(wrap64 (x5_1 + 1)), (wrap64 (x6_1 + 1)), (by first | rfl | (simp; done) | (simp [*]; done)), (by first | rfl | (simp; done) | (simp [*]; done)), H', ⟨by have := HK1.out; omega⟩, by repeat (first | exact Drawn0.refl _ | apply Drawn0.step)⟩
      ·rw [if_neg c6] at H
       have c6b0 : (((rd_T36 l0 x6_1).f1) == 0) = false := beq_eq_false_iff_ne.mpr c6
       have c6b1 : (((rd_T36 l0 x6_1).f1) != 0) = true := bne_iff_ne.mpr c6
       have H' := Aside0.mk H
       clear H
       have p111 : 0 ≤ (x6_1 : Int) := of_decide_eq_true (by first | (with_reducible assumption) | assumption)
       have q111 : x6_1 < (l0.length : Int) := of_decide_eq_true (by first | (with_reducible assumption) | assumption)
       obtain ⟨ad111, e111, hx111_0, hx111_1⟩ := at_T36 HR0.out x6_1 p111 q111
       cases e111
       replace p111 := eq_true p111
       replace q111 := eq_true q111
       go_wp2
       go_roundg k1
       case measure => have := HK1.out; omega
       case rel => exact ⟨(x5_1), (wrap64 (x6_1 + 1)), (by first | rfl | (simp; done) | (simp [*]; done)), (by first | rfl | (simp; done) | (simp [*]; done)), H', ⟨by have := HK1.out; omega⟩, by repeat (first | exact Drawn0.refl _ | apply Drawn0.step)⟩
     ·rw [if_neg c5] at H
      exact absurd H (by simp)
    ·rw [if_neg c4] at H
     exact absurd H (by simp)
   ·rw [if_neg c3] at H
    have c3b0 : decide (x6_1 < a1) = false := decide_eq_false c3
    clear c3
    obtain rfl := Option.some.inj H
    go_wp2
    go_ret
    exact ⟨by first | rfl | (simp; done) | (simp [*]; done), by repeat (first | exact Drawn0.refl _ | apply Drawn0.step)⟩
def stringslite_HasPrefix.f (a0 : ByteArray) (a1 : ByteArray) : Option (Bool) := if (a0.size : Int) ≥ (a1.size : Int) then (if 0 ≤ (a1.size : Int) then (if (a1.size : Int) ≤ (a0.size : Int) then (some ((a0.extract 0 ((a1.size : Int) : Int).toNat).toList == a1.toList)) else (none)) else (none)) else (some false)
set_option maxHeartbeats 8000000 in
set_option maxRecDepth 100000 in
theorem stringslite_HasPrefix.calls (a0 : ByteArray) (a1 : ByteArray) (r : Bool) (w : World) (h : stringslite_HasPrefix.f a0 a1 = some r) :
  Calls Tryd.prog 144 #[.string a0, .string a1] w fun e w' => e = .returned (.bool r) ∧ Drawn0 w w' := by
 have H : (if (a0.size : Int) ≥ (a1.size : Int) then (if 0 ≤ (a1.size : Int) then (if (a1.size : Int) ≤ (a0.size : Int) then (some ((a0.extract 0 ((a1.size : Int) : Int).toNat).toList == a1.toList)) else (none)) else (none)) else (some false)) = some r := h
 clear h
 by_cases c3 : (a0.size : Int) ≥ (a1.size : Int)
 ·rw [if_pos c3] at H
  have c3b0 : decide ((a1.size : Int) ≤ (a0.size : Int)) = true := decide_eq_true c3
  have c3b1 : decide (a1.size ≤ a0.size) = true := decide_eq_true (Int.ofNat_le.mp c3)
  clear c3
  by_cases c4 : 0 ≤ (a1.size : Int)
  ·rw [if_pos c4] at H
   have c4b0 := eq_true c4
   have c4b1 : decide (0 ≤ (a1.size : Int)) = true := decide_eq_true c4
   clear c4
   by_cases c5 : (a1.size : Int) ≤ (a0.size : Int)
   ·rw [if_pos c5] at H
    have c5b0 := eq_true c5
    have c5b1 : decide ((a1.size : Int) ≤ (a0.size : Int)) = true := decide_eq_true c5
    clear c5
    obtain rfl := Option.some.inj H
    go_enter Tryd.func144, Tryd.ntmps144
    go_wp2
    go_ret
    exact ⟨by first | rfl | (simp; done) | (simp [*]; done), by repeat (first | exact Drawn0.refl _ | apply Drawn0.step)⟩
   ·rw [if_neg c5] at H
    exact absurd H (by simp)
  ·rw [if_neg c4] at H
   exact absurd H (by simp)
 ·rw [if_neg c3] at H
  have c3b0 : decide ((a1.size : Int) ≤ (a0.size : Int)) = false := decide_eq_false c3
  have c3b1 : decide (a1.size ≤ a0.size) = false := decide_eq_false (fun h => c3 (Int.ofNat_le.mpr h))
  clear c3
  obtain rfl := Option.some.inj H
  go_enter Tryd.func144, Tryd.ntmps144
  go_wp2
  go_ret
  exact ⟨by first | rfl | (simp; done) | (simp [*]; done), by repeat (first | exact Drawn0.refl _ | apply Drawn0.step)⟩
def strings_HasPrefix.f (a0 : ByteArray) (a1 : ByteArray) : Option (Bool) := (stringslite_HasPrefix.f a0 a1).bind fun t112 => (some t112)
set_option maxHeartbeats 8000000 in
set_option maxRecDepth 100000 in
theorem strings_HasPrefix.calls (a0 : ByteArray) (a1 : ByteArray) (r : Bool) (w : World) (h : strings_HasPrefix.f a0 a1 = some r) :
  Calls Tryd.prog 125 #[.string a0, .string a1] w fun e w' => e = .returned (.bool r) ∧ Drawn0 w w' := by
 have H : ((stringslite_HasPrefix.f a0 a1).bind fun t112 => (some t112)) = some r := h
 clear h
 replace H := Option.bind_eq_some_iff.mp H
 obtain ⟨t112, A30, H⟩ := H
 replace H : (some t112) = some r := H
 have A3 := Aside0.mk A30
 clear A30
 obtain rfl := Option.some.inj H
 go_enter Tryd.func125, Tryd.ntmps125
 go_wp2_with (first | ((with_reducible refine gate_callee (f := 144) rfl ?_); refine goesL_ (some 7) rfl rfl Tryd.func144 (by kernel_rfl) rfl #[.string a0, .string a1] rfl (by (try simp only [List.map_toArray, List.map_cons, List.map_nil]); first | done | rfl | (simp only [List.length_drop, List.length_take]; rfl)) ?_; (with_reducible refine (stringslite_HasPrefix.calls a0 a1 t112 _ A3.out).mono ?_); rintro e w' ⟨rfl, ⟨nd, rfl⟩⟩; refine ⟨_, rfl, ?_⟩))
 go_ret
 exact ⟨by first | rfl | (simp; done) | (simp [*]; done), by repeat (first | exact Drawn0.refl _ | apply Drawn0.step)⟩
def utext_begins.f (a0 : ByteArray) (a1 : Int) (a2 : Int) : Option (Bool) := if a2 = 65533 then (if 0 ≤ a1 then (if a1 ≤ (a0.size : Int) then ((strings_HasPrefix.f (a0.extract (a1 : Int).toNat a0.size) (⟨#[239, 191, 189]⟩ : ByteArray)).bind fun t113 => (some t113)) else (none)) else (none)) else (some true)
set_option maxHeartbeats 8000000 in
set_option maxRecDepth 100000 in
theorem utext_begins.calls (a0 : ByteArray) (a1 : Int) (a2 : Int) (r : Bool) (w : World) (h : utext_begins.f a0 a1 a2 = some r) :
  Calls Tryd.prog 96 #[.string a0, .int .i64 a1, .int .i32 a2] w fun e w' => e = .returned (.bool r) ∧ Drawn0 w w' := by
 have H : (if a2 = 65533 then (if 0 ≤ a1 then (if a1 ≤ (a0.size : Int) then ((strings_HasPrefix.f (a0.extract (a1 : Int).toNat a0.size) (⟨#[239, 191, 189]⟩ : ByteArray)).bind fun t113 => (some t113)) else (none)) else (none)) else (some true)) = some r := h
 clear h
 by_cases c4 : a2 = 65533
 ·rw [if_pos c4] at H
  have c4b0 : (a2 == 65533) = true := beq_iff_eq.mpr c4
  have c4b1 : (a2 != 65533) = false := bne_eq_false_iff_eq.mpr c4
  clear c4
  by_cases c5 : 0 ≤ a1
  ·rw [if_pos c5] at H
   have c5b0 := eq_true c5
   have c5b1 : decide (0 ≤ a1) = true := decide_eq_true c5
   clear c5
   by_cases c6 : a1 ≤ (a0.size : Int)
   ·rw [if_pos c6] at H
    have c6b0 := eq_true c6
    have c6b1 : decide (a1 ≤ (a0.size : Int)) = true := decide_eq_true c6
    clear c6
    replace H := Option.bind_eq_some_iff.mp H
    obtain ⟨t113, A70, H⟩ := H
    replace H : (some t113) = some r := H
    have A7 := Aside0.mk A70
    clear A70
    obtain rfl := Option.some.inj H
    go_enter Tryd.func96, Tryd.ntmps96
    go_wp2_with (first | (go_at_call 125; (with_reducible refine (strings_HasPrefix.calls (a0.extract (a1 : Int).toNat a0.size) (⟨#[239, 191, 189]⟩ : ByteArray) t113 _ A7.out).mono ?_); rintro e w' ⟨rfl, ⟨nd, rfl⟩⟩))
    go_ret
    exact ⟨by first | rfl | (simp; done) | (simp [*]; done), by repeat (first | exact Drawn0.refl _ | apply Drawn0.step)⟩
   ·rw [if_neg c6] at H
    exact absurd H (by simp)
  ·rw [if_neg c5] at H
   exact absurd H (by simp)
 ·rw [if_neg c4] at H
  have c4b0 : (a2 == 65533) = false := beq_eq_false_iff_ne.mpr c4
  have c4b1 : (a2 != 65533) = true := bne_iff_ne.mpr c4
  obtain rfl := Option.some.inj H
  go_enter Tryd.func96, Tryd.ntmps96
  go_wp2
  go_ret
  exact ⟨by first | rfl | (simp; done) | (simp [*]; done), by repeat (first | exact Drawn0.refl _ | apply Drawn0.step)⟩
def rope_counter.f (a0 : Int) : Option (Int) := if a0 < 0 then (some 30) else (if a0 > 1048576 then (some 31) else (some 0))
set_option maxHeartbeats 8000000 in
set_option maxRecDepth 100000 in
theorem rope_counter.calls (a0 : Int) (r : Int) (w : World) (h : rope_counter.f a0 = some r) :
  Calls Tryd.prog 54 #[.int .i64 a0] w fun e w' => e = .returned (.int .i64 r) ∧ Drawn0 w w' := by
 have H : (if a0 < 0 then (some 30) else (if a0 > 1048576 then (some 31) else (some 0))) = some r := h
 clear h
 by_cases c2 : a0 < 0
 ·rw [if_pos c2] at H
  have c2b0 : decide (a0 < 0) = true := decide_eq_true c2
  clear c2
  obtain rfl := Option.some.inj H
  go_enter Tryd.func54, Tryd.ntmps54
  go_wp2
  go_ret
  exact ⟨by first | rfl | (simp; done) | (simp [*]; done), by repeat (first | exact Drawn0.refl _ | apply Drawn0.step)⟩
 ·rw [if_neg c2] at H
  have c2b0 : decide (a0 < 0) = false := decide_eq_false c2
  clear c2
  by_cases c3 : a0 > 1048576
  ·rw [if_pos c3] at H
   have c3b0 : decide (1048576 < a0) = true := decide_eq_true c3
   clear c3
   obtain rfl := Option.some.inj H
   go_enter Tryd.func54, Tryd.ntmps54
   go_wp2
   go_ret
   exact ⟨by first | rfl | (simp; done) | (simp [*]; done), by repeat (first | exact Drawn0.refl _ | apply Drawn0.step)⟩
  ·rw [if_neg c3] at H
   have c3b0 : decide (1048576 < a0) = false := decide_eq_false c3
   clear c3
   obtain rfl := Option.some.inj H
   go_enter Tryd.func54, Tryd.ntmps54
   go_wp2
   go_ret
   exact ⟨by first | rfl | (simp; done) | (simp [*]; done), by repeat (first | exact Drawn0.refl _ | apply Drawn0.step)⟩
end Go.Proofs.YteeigokkafcaaaaDoor.Pr
end
section
namespace Go.Proofs.YteeigokkafcaaaaDoorRope
open Go.RowKit Go.Proofs.YteeigokkafcaaaaDoorW.PrintWords Go.Proofs.YteeigokkafcaaaaDoorW.PrintMore Go.Proofs.YteeigokkafcaaaaDoor.Pr
set_option linter.unusedSimpArgs false
set_option linter.unusedVariables false
abbrev barCells : Array Value := #[.int .i32 0, .int .i32 8, .int .i32 11, .int .i32 31, .int .i32 127, .int .i32 159, .int .i32 64976, .int .i32 65007, .int .i32 65279, .int .i32 65279]
def BarsAt (W : World) : Prop := ∃ t fr, W.heap[0]? = some (.cells barCells t fr)
theorem BarsAt.below {W W1 : World} (h : BarsAt W) (hb : Below W.heap.size W W1) : BarsAt W1 := by
  obtain ⟨t, fr, h⟩ := h
  exact ⟨t, fr, (hb.block 0 (Array.getElem?_eq_some_iff.1 h).1).trans h⟩
theorem BarsAt.lt {W : World} (h : BarsAt W) : 0 < W.heap.size := by
  obtain ⟨t, fr, h⟩ := h
  exact (Array.getElem?_eq_some_iff.1 h).1
structure Let (r : Int) : Prop where
  h0 : 0 ≤ r ∧ r ≤ 1114111
  hs : ¬ (55296 ≤ r ∧ r ≤ 57343)
  b0 : r < 0 ∨ (0 ≤ r ∧ 8 < r)
  b1 : r < 11 ∨ (11 ≤ r ∧ 31 < r)
  b2 : r < 127 ∨ (127 ≤ r ∧ 159 < r)
  b3 : r < 64976 ∨ (64976 ≤ r ∧ 65007 < r)
  b4 : r < 65279 ∨ (65279 ≤ r ∧ 65279 < r)
  he : r % 65536 < 65534
theorem Let.rn {r : Int} (h : Let r) : Rn r := ⟨h.h0.1, h.h0.2, h.hs⟩
theorem bar0 (W : World) : (Instr.index 184 (.agg barCells) (.int .i64 0)).run Tryd.prog W = .ok (.agg #[.int .i32 0, .int .i32 8]) W := by kernel_rfl
theorem bar1 (W : World) : (Instr.index 184 (.agg barCells) (.int .i64 1)).run Tryd.prog W = .ok (.agg #[.int .i32 11, .int .i32 31]) W := by kernel_rfl
theorem bar2 (W : World) : (Instr.index 184 (.agg barCells) (.int .i64 2)).run Tryd.prog W = .ok (.agg #[.int .i32 127, .int .i32 159]) W := by kernel_rfl
theorem bar3 (W : World) : (Instr.index 184 (.agg barCells) (.int .i64 3)).run Tryd.prog W = .ok (.agg #[.int .i32 64976, .int .i32 65007]) W := by kernel_rfl
theorem bar4 (W : World) : (Instr.index 184 (.agg barCells) (.int .i64 4)).run Tryd.prog W = .ok (.agg #[.int .i32 65279, .int .i32 65279]) W := by kernel_rfl
theorem low16 (n : Int) : bits .and .i32 n 65535 = n % 65536 := by
  have h127 : (BitVec.ofInt 32 65535).toNat = 2 ^ 16 - 1 := by decide
  have key : (BitVec.ofInt 32 n &&& BitVec.ofInt 32 65535).toNat = (n % ((2 ^ 32 : Nat) : Int)).toNat % 2 ^ 16 := by
    rw [BitVec.toNat_and, BitVec.toNat_ofInt, h127, Nat.and_two_pow_sub_one_eq_mod]
  show IntKind.i32.wrap ((BitVec.ofInt 32 n &&& BitVec.ofInt 32 65535).toNat : Nat) = n % 65536
  rw [key, wrap_i32_small _ (by omega) (by omega)]
  omega
theorem ret_bool {a b : Bool} (h : a = b) : Ending.returned (.bool a) = .returned (.bool b) := by rw [h]
set_option maxRecDepth 100000 in
set_option maxHeartbeats 4000000 in
theorem letIn_yes {r : Int} (h : Let r) {w : World} (hw : BarsAt w) : Calls Tryd.prog 97 #[.int .i32 r] w fun e w' => e = .returned (.bool true) ∧ Below w.heap.size w w' := by
  have hlt := hw.lt
  obtain ⟨tt, fr, hg⟩ := hw
  obtain ⟨⟨h01, h02⟩, _, hb0, hb1, hb2, hb3, hb4, he⟩ := h
  have i0 := bar0
  have i1 := bar1
  have i2 := bar2
  have i3 := bar3
  have i4 := bar4
  have HE := Lib.hid he
  clear he
  go_enter Tryd.func97, Tryd.ntmps97
  go_wp2_with (refine wpList_load_row rfl 184 _ rfl 0 rfl tt _ fr _ hg Tryd.underlying184 rfl (by kernel_rfl) ?_)
  clear hg
  go_loopw [6] (fun i wr => ∃ k : Int, i = .int .i64 k ∧ (k = 0 ∨ k = 1 ∨ k = 2 ∨ k = 3 ∨ k = 4 ∨ k = 5) ∧ Below w.heap.size w wr) (fun i _ => 5 - (intOf i).toNat)
  case atStart => exact ⟨0, rfl, .inl rfl, Below.refl _ _⟩
  case round =>
    obtain ⟨k, rfl, hk, hB⟩ := hrel
    rcases hk with rfl | rfl | rfl | rfl | rfl | rfl
    · rcases hb0 with hA | ⟨hA, hC⟩
      · exact absurd hA (by omega)
      · have d1 : decide ((0 : Int) ≤ r) = true := decide_eq_true (by omega)
        have d2 : decide (r ≤ 8) = false := decide_eq_false (by omega)
        go_wp2
        go_roundw
        case rel => exact ⟨1, rfl, by simp, hB.alloc hB.size _⟩
        case measure => simp [intOf]
    · rcases hb1 with hA | ⟨hA, hC⟩
      · have d1 : decide ((11 : Int) ≤ r) = false := decide_eq_false (by omega)
        go_wp2
        go_roundw
        case rel => exact ⟨2, rfl, by simp, hB.alloc hB.size _⟩
        case measure => simp [intOf]
      · have d1 : decide ((11 : Int) ≤ r) = true := decide_eq_true (by omega)
        have d2 : decide (r ≤ 31) = false := decide_eq_false (by omega)
        go_wp2
        go_roundw
        case rel => exact ⟨2, rfl, by simp, hB.alloc hB.size _⟩
        case measure => simp [intOf]
    · rcases hb2 with hA | ⟨hA, hC⟩
      · have d1 : decide ((127 : Int) ≤ r) = false := decide_eq_false (by omega)
        go_wp2
        go_roundw
        case rel => exact ⟨3, rfl, by simp, hB.alloc hB.size _⟩
        case measure => simp [intOf]
      · have d1 : decide ((127 : Int) ≤ r) = true := decide_eq_true (by omega)
        have d2 : decide (r ≤ 159) = false := decide_eq_false (by omega)
        go_wp2
        go_roundw
        case rel => exact ⟨3, rfl, by simp, hB.alloc hB.size _⟩
        case measure => simp [intOf]
    · rcases hb3 with hA | ⟨hA, hC⟩
      · have d1 : decide ((64976 : Int) ≤ r) = false := decide_eq_false (by omega)
        go_wp2
        go_roundw
        case rel => exact ⟨4, rfl, by simp, hB.alloc hB.size _⟩
        case measure => simp [intOf]
      · have d1 : decide ((64976 : Int) ≤ r) = true := decide_eq_true (by omega)
        have d2 : decide (r ≤ 65007) = false := decide_eq_false (by omega)
        go_wp2
        go_roundw
        case rel => exact ⟨4, rfl, by simp, hB.alloc hB.size _⟩
        case measure => simp [intOf]
    · rcases hb4 with hA | ⟨hA, hC⟩
      · have d1 : decide ((65279 : Int) ≤ r) = false := decide_eq_false (by omega)
        go_wp2
        go_roundw
        case rel => exact ⟨5, rfl, by simp, hB.alloc hB.size _⟩
        case measure => simp [intOf]
      · have d1 : decide ((65279 : Int) ≤ r) = true := decide_eq_true (by omega)
        have d2 : decide (r ≤ 65279) = false := decide_eq_false (by omega)
        go_wp2
        go_roundw
        case rel => exact ⟨5, rfl, by simp, hB.alloc hB.size _⟩
        case measure => simp [intOf]
    · go_wp2
      go_ret
      refine ⟨ret_bool ?_, hB⟩
      rw [low16]
      exact decide_eq_true HE.out
def Lets (l : List Int) : Prop := ∀ r ∈ l, Let r
theorem Lets.rns {l : List Int} (h : Lets l) : ∀ r ∈ l, Rn r := fun r hr => (h r hr).rn
theorem enc_broken : Lib.encodeRune 65533 = [239, 191, 189] := by decide
theorem begins_yes {l : List Int} (hl : ∀ r ∈ l, Rn r) {k p : Nat} {r : Int} (hlt : k < l.length) (hr : r = l[k]) (hp : p = (utf (l.take k)).length) : utext_begins.f (txt l) (p : Int) r = some true := by
  have h3 : (utf (l.take k)).length < (txt l).size := by
    have := txt_lt (a := l.take k) (r := l[k]) (b := l.drop (k + 1))
    rwa [← split_at hlt] at this
  unfold utext_begins.f
  by_cases c : r = 65533
  · rw [if_pos c, if_pos (Int.natCast_nonneg p), if_pos (Int.ofNat_le.2 (by omega)), Int.toNat_natCast]
    have e : ((txt l).extract p (txt l).size).data.toList = [239, 191, 189] ++ utf (l.drop (k + 1)) := by
      have hu : utf l = utf (l.take k) ++ ([239, 191, 189] ++ utf (l.drop (k + 1))) := by
        have := congrArg utf (split_at hlt)
        rwa [utf_append, utf_cons, ← hr, c, enc_broken] at this
      rw [Lib.extract_to_end, txt_list, hp, hu, List.drop_left]
    generalize (txt l).extract p (txt l).size = x at e
    have hs : x.size = 3 + (utf (l.drop (k + 1))).length := by
      rw [← data_length, e, List.length_append]; rfl
    have h4 : (⟨#[239, 191, 189]⟩ : ByteArray).size = 3 := rfl
    unfold strings_HasPrefix.f stringslite_HasPrefix.f
    rw [h4, hs, if_pos (by omega), if_pos (by omega), if_pos (by omega)]
    simp only [Option.bind_some, ByteArray.toList_eq, Option.some.injEq, beq_iff_eq]
    have : ((x.extract 0 ((3 : Nat) : Int).toNat).data.toList) = x.data.toList.take 3 := by
      rw [Int.toNat_natCast]
      simp
    rw [this, e]
    rfl
  · rw [if_neg c]
set_option maxRecDepth 100000 in
set_option maxHeartbeats 4000000 in
theorem check_yes {l : List Int} (hl : Lets l) (hn : l.length ≤ 1073741824) {w : World} (hw : BarsAt w) : Calls Tryd.prog 53 #[.string (txt l)] w fun e w' => e = .returned (.tuple #[.int .i64 (l.length : Int), .int .i64 0, .int .i64 0]) ∧ Below w.heap.size w w' := by
  have hk0 := iter_start w l
  have hb0 : Below w.heap.size w (w.iter (txt l) 0) := (Below.refl _ w).alloc (Nat.le_refl _) _
  go_enter Tryd.func53, Tryd.ntmps53
  go_wp2
  go_loopw [5] (fun v wr => ∃ k : Nat, k ≤ l.length ∧ v = .int .i64 (k : Int) ∧ IterAt wr w.heap.size l k ∧ Below w.heap.size w wr)
    (fun _ wr => leftOf wr w.heap.size l)
  case atStart => exact ⟨0, Nat.zero_le _, rfl, hk0, hb0⟩
  case round =>
    obtain ⟨k, hkl, rfl, hk, hB⟩ := hrel
    clear hk0 hb0
    by_cases hlt : k < l.length
    · obtain ⟨W1, p, r, hnext, ⟨hx, hr⟩, hp, hi1, ho1, hs1, hbl1⟩ := next_txt (P := Tryd.prog) hl.rns hk hlt
      have hbe := begins_yes hl.rns hlt hr hp
      have hle : Let r := hr ▸ hl _ (List.getElem_mem hlt)
      have hB1 := hbl1 hB (Nat.le_refl _)
      have hw1 : BarsAt W1 := hw.below hB1
      have HK := Lib.hid hk
      have HBe := Lib.hid hbe
      have hz1 : w.heap.size < W1.heap.size := IterAt.below.new_lt' hi1
      have HI := Lib.hid hi1
      clear hk hp ho1 hB hi1 hr hs1 hbl1 hbe hw
      go_wp2_with (first
        | (go_at_call 96; refine (utext_begins.calls _ _ _ _ _ HBe.out).mono ?_; rintro e w2 ⟨rfl, ⟨nd, rfl⟩⟩)
        | (go_at_call 97; refine (letIn_yes hle (hw1.below (pw_below_drewN (Below.refl _ W1) nd))).mono ?_; rintro e w3 ⟨rfl, hB3⟩))
      replace hB3 : Below W1.heap.size W1 w3 := (pw_below_drewN (Below.refl _ W1) nd).trans hB3
      have hI3 : IterAt w3 w.heap.size l (k + 1) := HI.out.below hB3
      have hB4 := hB1.trans (Below.mono hB3 (Nat.le_of_lt hz1))
      have hm := left_less HK.out hI3 hlt
      clear hB1 hz1 hB3
      go_wp2
      go_roundw
      case rel => exact ⟨k + 1, hlt, by go_num, hI3, hB4⟩
      case measure => exact hm
    · have hnext := fun ty => next_txt_end (P := Tryd.prog) hk (by omega) ty
      have he : (k : Int) = (l.length : Int) := by omega
      have HE := Lib.hid he
      clear he
      go_wp2
      go_ret3
      exact ⟨congrArg (fun x : Int => Ending.returned (.tuple #[.int .i64 x, .int .i64 0, .int .i64 0])) HE.out, hB⟩
end Go.Proofs.YteeigokkafcaaaaDoorRope
end
section
namespace Go.Proofs.YteeigokkafcaaaaDoorLaid
open Go.ChangeShapes Go.WideShapes Go.ChangeAt Go.RowKit Go.Proofs.YteeigokkafcaaaaDoor
theorem own : ownKnob Tryd.prog.godebug = none := by kernel_rfl
theorem gBars : Tryd.prog.globalNamed "redraft/utext.bars" = some 0 := by kernel_rfl
theorem tBars : (Tryd.prog.globals[0]?).map (·.type) = some 184 := by kernel_rfl
abbrev laidL : List (String × DataW Unit) := [("redraft/utext.bars", Rows.laid_redraft_utext_bars)]
theorem door_met (os : Os) (args : Array Value) : laidMetH Tryd.prog laidL ((World.doorLaid Tryd.prog 19 os).forCall (fun _ _ => 0) ⟨#[], args, []⟩).memory :=
  laidMetH_of_parts3 (fuel := 8) (laidMet_of_run' 8 (by kernel_rfl) (by kernel_rfl)) (by kernel_rfl) (by kernel_rfl)
theorem c184 : Tryd.prog.cellsOf 184 = 10 := by kernel_rfl
theorem c183 : Tryd.prog.cellsOf 183 = 2 := by kernel_rfl
theorem c21 : Tryd.prog.cellsOf 21 = 1 := by kernel_rfl
theorem bar_of {H : Type} {enc : TypeId × Value → H} {W : World} {sp : Nat → Bool} {held : Bool} {m : Nat} {a b : Value} {x : DataW H × List MemPlace} {lo hi : Int} (h : DataW.trod enc Tryd.prog W 0 sp held m 183 [a, b] = some x) (e : x.1 = .agg [.lit (.int .i32 lo), .lit (.int .i32 hi)]) : a = .int .i32 lo ∧ b = .int .i32 hi := by
  obtain ⟨y0, y1, n, rfl, _, h0, h1⟩ := trod_struct2 Tryd.underlying183 h
  simp only [c21] at h0 h1
  obtain ⟨k0, e0, e2, _⟩ := DataW.trod_int Tryd.underlying21 h0
  obtain ⟨k1, e1, e3, _⟩ := DataW.trod_int Tryd.underlying21 h1
  simp at e0 e1
  simp only [e2, e3, DataW.agg.injEq, List.cons.injEq, DataW.lit.injEq, Lit.int.injEq, true_and, and_true] at e
  obtain ⟨rfl, rfl⟩ := e
  exact ⟨e0, e1⟩
set_option maxRecDepth 100000 in
theorem bars_of_laid {W : World} (h : laidMetH Tryd.prog laidL W) : Go.Proofs.YteeigokkafcaaaaDoorRope.BarsAt W := by
  rw [MakeChecks.laidMetH_plain _ _ _ (by kernel_rfl)] at h
  obtain ⟨ps, ⟨g0, t0, cs0, f0, p0, q0, hg0, ht0, hv0, hd0, _, _⟩, _, _⟩ := h
  obtain rfl := Option.some.inj (gBars.symm.trans hg0)
  obtain rfl := Option.some.inj (tBars.symm.trans ht0)
  have hblk : ∃ t fr, W.heap[0]? = some (.cells cs0 t fr) := by
    unfold World.var? at hv0
    rw [gBars] at hv0
    simp only [Option.bind_some] at hv0
    split at hv0
    · rename_i cs t fr hh
      injection hv0 with hv0
      subst hv0
      exact ⟨_, _, hh⟩
    · cases hv0
  obtain ⟨t, fr, hh⟩ := hblk
  refine ⟨t, fr, ?_⟩
  rw [hh]
  obtain ⟨xs, m1, rfl, hx1, hlen, hn3, hel⟩ := DataW.trod_array Tryd.underlying184 hd0
  rw [c184] at hlen
  simp only [c183] at hel
  obtain ⟨l⟩ := cs0
  simp only at hlen hel
  obtain ⟨a0, b0, a1, b1, a2, b2, a3, b3, a4, b4, rfl⟩ : ∃ a0 b0 a1 b1 a2 b2 a3 b3 a4 b4, l = [a0, b0, a1, b1, a2, b2, a3, b3, a4, b4] := by
    match l, hlen with
    | [a0, b0, a1, b1, a2, b2, a3, b3, a4, b4], _ => exact ⟨a0, b0, a1, b1, a2, b2, a3, b3, a4, b4, rfl⟩
  obtain ⟨y0, y1, y2, y3, y4, rfl⟩ : ∃ y0 y1 y2 y3 y4, xs = [y0, y1, y2, y3, y4] := by
    match xs, hn3 with
    | [y0, y1, y2, y3, y4], _ => exact ⟨y0, y1, y2, y3, y4, rfl⟩
  simp only [Prod.mk.injEq, Rows.laid_redraft_utext_bars, DataW.agg.injEq, List.map_cons, List.map_nil, List.cons.injEq, and_true] at hx1
  obtain ⟨⟨z0, z1, z2, z3, z4⟩, _⟩ := hx1
  obtain ⟨rfl, rfl⟩ := bar_of (hel 0 (by decide)) z0.symm
  obtain ⟨rfl, rfl⟩ := bar_of (hel 1 (by decide)) z1.symm
  obtain ⟨rfl, rfl⟩ := bar_of (hel 2 (by decide)) z2.symm
  obtain ⟨rfl, rfl⟩ := bar_of (hel 3 (by decide)) z3.symm
  obtain ⟨rfl, rfl⟩ := bar_of (hel 4 (by decide)) z4.symm
  rfl
end Go.Proofs.YteeigokkafcaaaaDoorLaid
end
section
namespace Go.Proofs.YteeigokkafcaaaaDoorR
open Go.RowKit Go.Proofs.YteeigokkafcaaaaDoorW.PrintWords
theorem list_of {α : Type} {p : Nat → α → Prop} : ∀ (n : Nat), (∀ i, i < n → ∃ y, p i y) → ∃ ys : List α, ys.length = n ∧ ∀ i y, ys[i]? = some y → p i y
  | 0, _ => ⟨[], rfl, fun i y h => by simp at h⟩
  | n + 1, h => by
    obtain ⟨ys, hl, hp⟩ := list_of n (fun i hi => h i (by omega))
    obtain ⟨y, hy⟩ := h n (by omega)
    refine ⟨ys ++ [y], by simp [hl], fun i z hz => ?_⟩
    by_cases hi : i < n
    · rw [List.getElem?_append_left (by omega)] at hz
      exact hp i z hz
    · have : i = n := by
        have := (List.getElem?_eq_some_iff.1 hz).1
        simp [hl] at this
        omega
      subst this
      rw [List.getElem?_append_right (by omega)] at hz
      simp [hl] at hz
      subst hz
      exact hy
theorem weightsAll_mem {H : Type} {P : Program} {e : TypeId} : ∀ {ds : List (DataW H)} {d : DataW H}, d ∈ ds → ∀ n ∈ d.weights P e, n ∈ DataW.weightsAll P e ds
  | d0 :: ds, d, hd, n, hn => by
    simp only [DataW.weightsAll, List.mem_append]
    rcases List.mem_cons.1 hd with rfl | hd
    · exact Or.inl hn
    · exact Or.inr (weightsAll_mem hd n hn)
  | [], d, hd, _, _ => by simp at hd
def Reads {α : Type} (P : Program) (t : TypeId) (d : Kd α) (Q : α → Prop) : Prop :=
  ∀ (H : Type) (enc : TypeId × Value → H) (w : World) (base : Nat) (spare : Nat → Bool) (held : Bool) (fuel : Nat) (cs : List Value) (x : DataW H × List MemPlace),
    DataW.trod enc P w base spare held fuel t cs = some x → (∀ n ∈ x.1.weights P t, n ≤ reachBytes) → ∃ y, d.K w y cs ∧ Q y
theorem reads_int {P : Program} {t : TypeId} {k : IntKind} (ht : P.underlying t = some (.int k)) : Reads P t (Kd.int k) (fun n => (Lit.int k n).wf = true) := by
  intro H enc w base spare held fuel cs x h _
  obtain ⟨n, rfl, _, hw⟩ := DataW.trod_int ht h
  exact ⟨n, rfl, hw⟩
theorem reads_slice {α : Type} {P : Program} {t e : TypeId} {d : Kd α} {Q : α → Prop} (ht : P.underlying t = some (.slice e)) (hc : P.cellsOf e = d.sz) {B : Nat} (hB : P.bytesOf e = B) (he : Reads P e d Q) :
    Reads P t (Kd.slice e d) (fun xs => xs.length * B ≤ 140737488351232 ∧ ∀ x ∈ xs, Q x) := by
  intro H enc w base spare held fuel cs x h hb
  rcases Deep.open_slice ht h with ⟨rfl, rfl⟩ | ⟨a, len, cap, m, n, D, Pl, rfl, _, hl, hm, hmm, rfl, hx⟩
  · exact ⟨[], ⟨none, 0, rfl, Nat.le_refl _, ⟨rfl, by simp, fun h0 => absurd h0 (by simp)⟩⟩, by simp, by simp⟩
  · have hlm : len ≤ m := by rw [hmm]; split <;> omega
    have hex : ∀ i, i < len → ∃ y, (∃ cs', w.cells? base (a.add (i * P.cellsOf e)) (P.cellsOf e) = some cs' ∧ d.K w y cs') ∧ Q y := by
      intro i hi
      obtain ⟨cs', h1, h2⟩ := hx i (by omega)
      obtain ⟨y, hy, hq⟩ := he H enc w base spare held n cs' _ h2 (fun k hk => hb k (by
        simp only [DataW.weights, ht, List.mem_cons, List.mem_append]
        refine Or.inr (Or.inl (weightsAll_mem (d := D i) ?_ k hk))
        exact List.mem_map.2 ⟨i, List.mem_range.2 hi, rfl⟩))
      exact ⟨y, ⟨cs', h1, hy⟩, hq⟩
    obtain ⟨ys, hlen, hp⟩ := list_of len hex
    subst hlen
    have hcap : ys.length ≤ 9223372036854775807 := by unfold maxLen at hm; omega
    refine ⟨ys, ⟨some a, cap, rfl, hl, rfl, hcap, fun _ => ⟨a, rfl, fun j p hj => ?_⟩⟩, ?_, fun x hx' => ?_⟩
    · obtain ⟨⟨cs', h1, hK⟩, _⟩ := hp j p hj
      obtain ⟨_, hl2, hcell⟩ := World.cells?_some h1
      rw [hc] at hl2
      refine ⟨cs', hl2, hK, fun i u hu => ?_⟩
      have hi : i < P.cellsOf e := by rw [hc, ← hl2]; exact (List.getElem?_eq_some_iff.1 hu).1
      rw [← add_add, ← hc]
      exact (hcell i hi).trans hu
    · have := hb _ (by simp only [DataW.weights, ht]; exact List.mem_cons_self)
      simp only [List.length_map, List.length_range] at this
      rw [hB] at this
      have e1 : reachBytes = 140737488351232 := rfl
      rw [e1] at this
      refine Nat.le_trans (Nat.mul_le_mul_right _ ?_) this
      omega
    · obtain ⟨i, hi⟩ := List.getElem?_of_mem hx'
      exact (hp i x hi).2
def ReadsL {α : Type} (P : Program) (o : Nat) (fs : List Field) (d : Kd α) (Q : α → Prop) : Prop :=
  ∀ (H : Type) (enc : TypeId × Value → H) (w : World) (base : Nat) (spare : Nat → Bool) (held : Bool) (fuel : Nat) (cs : List Value) (xs : List (DataW H × List MemPlace)),
    xs.length = fs.length → (∀ (i : Nat) (f : Field), fs[i]? = some f → DataW.trod enc P w base spare held fuel f.type ((cs.drop f.offset).take (P.cellsOf f.type)) = xs[i]?) →
    (∀ n ∈ DataW.weightsEach P (fs.map (·.type)) (xs.map (·.1)), n ≤ reachBytes) → o + d.sz ≤ cs.length → ∃ y, d.K w y ((cs.drop o).take d.sz) ∧ Q y
theorem readsL_one {α : Type} {P : Program} {o : Nat} {f : Field} {d : Kd α} {Q : α → Prop} (h : Reads P f.type d Q) (ho : f.offset = o) (hc : P.cellsOf f.type = d.sz) : ReadsL P o [f] d Q := by
  intro H enc w base spare held fuel cs xs hl hx hb _
  match xs, hl with
  | [x], _ =>
    have h0 := hx 0 f rfl
    rw [ho, hc] at h0
    exact h H enc w base spare held fuel _ x h0 (fun n hn => hb n (by simpa [DataW.weightsEach] using hn))
theorem readsL_cons {α β : Type} {P : Program} {o : Nat} {f : Field} {fs : List Field} {a : Kd α} {b : Kd β} {Qa : α → Prop} {Qb : β → Prop} (h : Reads P f.type a Qa) (ho : f.offset = o) (hc : P.cellsOf f.type = a.sz) (ht : ReadsL P (o + a.sz) fs b Qb) :
    ReadsL P o (f :: fs) (Kd.pair a b) (fun y => Qa y.1 ∧ Qb y.2) := by
  intro H enc w base spare held fuel cs xs hl hx hb hlen
  match xs, hl with
  | x :: xs, hl =>
    have h0 := hx 0 f rfl
    rw [ho, hc] at h0
    obtain ⟨y, hy, hq⟩ := h H enc w base spare held fuel _ x h0 (fun n hn => hb n (by simp only [List.map_cons, DataW.weightsEach, List.mem_append]; exact Or.inl hn))
    have hsz : (Kd.pair a b).sz = a.sz + b.sz := rfl
    obtain ⟨z, hz, hr⟩ := ht H enc w base spare held fuel cs xs (by simpa using hl) (fun i g hg => hx (i + 1) g hg) (fun n hn => hb n (by simp only [List.map_cons, DataW.weightsEach, List.mem_append]; exact Or.inr hn)) (by rw [hsz] at hlen; omega)
    refine ⟨(y, z), ⟨_, _, ?_, hy, hz⟩, hq, hr⟩
    rw [hsz, List.take_add, List.drop_drop]
theorem reads_struct {α β : Type} {P : Program} {t : TypeId} {fs : Array Field} {d : Kd α} {Q : α → Prop} {f : β → α} (g : α → β) (hg : ∀ y, f (g y) = y) (ht : P.underlying t = some (.struct fs)) (hc : P.cellsOf t = d.sz) (h : ReadsL P 0 fs.toList d Q) :
    Reads P t (Kd.iso d f) (fun x => Q (f x)) := by
  intro H enc w base spare held fuel cs x hx hb
  obtain ⟨xs, n, rfl, rfl, hl, hlen, hall⟩ := DataW.trod_struct ht hx
  obtain ⟨y, hy, hq⟩ := h H enc w base spare held n cs xs (by simpa using hlen) (fun i f hf => hall i f (by simpa using hf)) (fun k hk => hb k (by simp only [DataW.weights, ht]; exact hk)) (by omega)
  rw [List.drop_zero, List.take_of_length_le (by omega)] at hy
  refine ⟨g y, ?_, ?_⟩
  · show d.K w (f (g y)) cs
    rw [hg]; exact hy
  · show Q (f (g y))
    rw [hg]; exact hq
theorem Reads.weaken {α : Type} {P : Program} {t : TypeId} {d : Kd α} {Q Q' : α → Prop} (h : Reads P t d Q) (hq : ∀ x, Q x → Q' x) : Reads P t d Q' := by
  intro H enc w base spare held fuel cs x hx hb
  obtain ⟨y, hy, hq'⟩ := h H enc w base spare held fuel cs x hx hb
  exact ⟨y, hy, hq y hq'⟩
theorem slice_arg {α : Type} {H : Type} {enc : TypeId × Value → H} {P : Program} {W : World} {base : Nat} {spare : Nat → Bool} {held : Bool} {t e : TypeId} {d : Kd α} {Q : List α → Prop} {a : Option Addr} {len cap : Nat} {D : DataW H} {ps : List MemPlace}
    (h : DataW.Trod enc P W base spare held t (.slice a len cap) D ps) {ts : List TypeId} {ds : List (DataW H)} {j : Nat}
    (hsz : (DataW.weightsEach P ts ds).all (· ≤ reachBytes) = true) (ht : ts[j]? = some t) (hd : ds[j]? = some D) (hR : Reads P t (Kd.slice e d) Q) :
    ∃ xs : List α, len = xs.length ∧ xs.length ≤ cap ∧ d.C W a xs.length xs ∧ Q xs := by
  obtain ⟨fuel, hf⟩ := h
  obtain ⟨xs, ⟨A, c, hc, hl, hC⟩, hq⟩ := hR H enc W base spare held fuel _ _ hf (fun n hn => by
    have := List.all_eq_true.1 hsz n (DataW.weights_mem_each ht hd n hn)
    simpa using this)
  simp [Value.cells] at hc
  obtain ⟨rfl, rfl, rfl⟩ := hc
  exact ⟨xs, rfl, hl, hC, hq⟩
end Go.Proofs.YteeigokkafcaaaaDoorR
end
section
namespace Go.Proofs.YteeigokkafcaaaaDoor.Pr
open Go.RowKit Go.Proofs.YteeigokkafcaaaaDoorW.PrintWords Go.Proofs.YteeigokkafcaaaaDoorW.PrintLast Go.Proofs.YteeigokkafcaaaaDoorW.PrintMore
attribute [local go_sem] max2_int min2_int max_two min_two max_three min_three max_four min_four
set_option linter.unusedVariables false
set_option linter.unusedSimpArgs false
def rope_cutUp.l0 : Nat → List Int → Int → Int → List (S113) → Int → Int → Option ((List (S113)))
 | 0, _, _, _, _, _, _ => none
 | k + 1, x0, x1, x5, x6, x13, x14 => if x14 < x13 then (if x5 = 0 then (none) else (if 0 ≤ (wrap64 (Int.tdiv (wrap64 (x14 * (x0.length : Int))) x5)) then (if (wrap64 (Int.tdiv (wrap64 (x14 * (x0.length : Int))) x5)) ≤ (wrap64 (Int.tdiv (wrap64 ((wrap64 (x14 + 1)) * (x0.length : Int))) x5)) then (if (wrap64 (Int.tdiv (wrap64 ((wrap64 (x14 + 1)) * (x0.length : Int))) x5)) ≤ (x0.length : Int) then (if x6.length < 4398046511104 then (rope_cutUp.l0 k x0 x1 x5 (x6 ++ [(⟨((x0.take ((wrap64 (Int.tdiv (wrap64 ((wrap64 (x14 + 1)) * (x0.length : Int))) x5)) : Int).toNat).drop ((wrap64 (Int.tdiv (wrap64 (x14 * (x0.length : Int))) x5)) : Int).toNat), x1⟩ : S113)]) x13 (wrap64 (x14 + 1))) else (none)) else (none)) else (none)) else (none))) else (some x6)
def rope_cutUp.f (k : Nat) (l0 : List Int) (a1 : Int) : Option ((List (S113))) := rope_cutUp.l0 k l0 a1 (wrap64 (Int.tdiv (wrap64 ((wrap64 ((l0.length : Int) + 64)) - 1)) 64)) ([] : List (S113)) (wrap64 (Int.tdiv (wrap64 ((wrap64 ((l0.length : Int) + 64)) - 1)) 64)) 0
theorem rope_cutUp.mono_l : ∀ k, (∀ y0 y1 y2 y3 y4 y5, LeO (rope_cutUp.l0 k y0 y1 y2 y3 y4 y5) (rope_cutUp.l0 (k + 1) y0 y1 y2 y3 y4 y5))
 | 0 => fun _ _ _ _ _ _ r h => by simp [rope_cutUp.l0] at h
 | k + 1 => by
  have ih0 := rope_cutUp.mono_l k
  ·intro y0 y1 y2 y3 y4 y5
   unfold rope_cutUp.l0
   repeat' first
   | (with_reducible exact ih0 _ _ _ _ _ _)
   | (with_reducible exact LeO.refl _)
   | (with_reducible exact LeO.none _)
   | (with_reducible refine LeO.ite ?_ ?_)
   | (with_reducible refine LeO.bind ?_ (fun _ => ?_))
   | exact ih0 _ _ _ _ _ _
   | exact LeO.none _
   | refine LeO.ite ?_ ?_
   | refine LeO.bind ?_ (fun _ => ?_)
theorem rope_cutUp.mono : ∀ a0 a1 k, LeO (rope_cutUp.f k a0 a1) (rope_cutUp.f (k + 1) a0 a1) := by
 intro a0 a1 k
 have ih0 := rope_cutUp.mono_l k
 unfold rope_cutUp.f
 repeat' first
   | (with_reducible exact ih0 _ _ _ _ _ _)
   | (with_reducible exact LeO.refl _)
   | (with_reducible exact LeO.none _)
   | (with_reducible refine LeO.ite ?_ ?_)
   | (with_reducible refine LeO.bind ?_ (fun _ => ?_))
   | exact ih0 _ _ _ _ _ _
   | exact LeO.none _
   | refine LeO.ite ?_ ?_
   | refine LeO.bind ?_ (fun _ => ?_)
def rope_cutUp.T6 : Bool × List (List Nat × List Nat) := (true, [([], []), ([], []), ([], []), ([], []), ([3], [3]), ([2, 4], [2, 4]), ([], []), ([5, 6], [5, 6]), ([], []), ([8], [8]), ([], []), ([10], [10]), ([9, 11], [9, 11]), ([], []), ([12, 13], [12, 13]), ([1, 7, 14], [1, 7, 14]), ([], []), ([15, 16], [15, 16]), ([17], [17]), ([0, 18], [0, 18]), ([19, 19, 0, 1, 2, 3, 4, 5, 6, 7, 8, 9, 10, 11, 12, 13, 14, 15, 16, 17, 18, 19], [0, 19])])
def rope_cutUp.B6 : List Nat := [0, 0, 0, 0, 8, 28, 0, 124, 0, 256, 0, 1024, 3840, 0, 16128, 32766, 0, 131070, 262142, 524287, 1048575]
theorem rope_cutUp.tab6 : rtab .any (opsOf Tryd.f55 6) = rope_cutUp.T6 := by kernel_rfl
theorem rope_cutUp.bits6 : waitsOk rope_cutUp.T6.2 rope_cutUp.B6 = true := by kernel_rfl
set_option maxHeartbeats 8000000 in
set_option maxRecDepth 100000 in
theorem rope_cutUp.calls (k : Nat) (P0_ : Nat → Prop) (A0 : Option Addr) (c0 : Nat) (l0 : List Int) (a1 : Int) (r : List (S113)) (w : World) (hs0 : Kd.V (Kd.int .i32) 21 w w.heap.size (fun k_ => P0_ k_) (.slice A0 l0.length c0) l0) (h : rope_cutUp.f k l0 a1 = some r) :
  Calls Tryd.prog 55 #[.slice A0 l0.length c0, .int .i64 a1] w fun e w' => ∃ v0_ : Value, e = .returned (v0_) ∧ Kd.N k113 113 w' w.heap.size (fun k_ => (P0_ k_ ∨ w.heap.size ≤ k_)) v0_ r ∧ Below w.heap.size w w' := by
 have hu113 := Tryd.underlying113
 have HO0 := Aside0.mk (show Kd.V (Kd.int .i32) 21 w w.heap.size (fun k_ => (P0_ k_ ∨ w.heap.size ≤ k_)) (.slice A0 l0.length c0) l0 from Kd.V_mono hs0 (fun k_ hk => .inl hk))
 have HB := Aside0.mk (Below.refl w.heap.size w)
 have H : (rope_cutUp.l0 k l0 a1 (wrap64 (Int.tdiv (wrap64 ((wrap64 ((l0.length : Int) + 64)) - 1)) 64)) ([] : List (S113)) (wrap64 (Int.tdiv (wrap64 ((wrap64 ((l0.length : Int) + 64)) - 1)) 64)) 0) = some r := h
 clear h
 have H' := Aside0.mk H
 clear H
 go_enter Tryd.func55, Tryd.ntmps55
 go_wp2
 go_loopg [6, 14] k (fun kq v6 v14 w' => ∃ (x6_1 : List (S113)) (x14_1 : Int), v14 = .int .i64 x14_1 ∧ Aside0 (rope_cutUp.l0 kq l0 a1 (wrap64 (Int.tdiv (wrap64 ((wrap64 ((l0.length : Int) + 64)) - 1)) 64)) x6_1 (wrap64 (Int.tdiv (wrap64 ((wrap64 ((l0.length : Int) + 64)) - 1)) 64)) x14_1 = some r) ∧ Aside0 (kq ≤ k) ∧ Aside0 (Kd.V (Kd.int .i32) 21 w' w.heap.size (fun k_ => (P0_ k_ ∨ w.heap.size ≤ k_) ∧ some k_ ≠ (v6 : Value).ownBlock) (.slice A0 l0.length c0) l0) ∧ Aside0 (Kd.N k113 113 w' w.heap.size (fun k_ => (P0_ k_ ∨ w.heap.size ≤ k_)) v6 x6_1) ∧ Aside0 (Below w.heap.size w w'))
 case atStart => exact ⟨(([] : List (S113))), (0), (by first | rfl | (simp; done) | (simp [*]; done)), H', ⟨Nat.le_refl _⟩, ⟨by (with_reducible repeat (first | apply Kd.V_alloc | apply Kd.V_drewN | apply Kd.V_drew)); exact Kd.V_mono HO0.out (fun _ hk => ⟨hk, (by simp [Value.ownBlock])⟩)⟩, ⟨by first | exact Kd.S_nil _ _ _ _ _ | exact Kd.N_nil _ _ _ _ _ | exact Kd.V_nil _ _ _ _ _ | exact Kd.Q_nil _ _ _ _ _ | exact Kd.R_nil _ _ _ _ _⟩, ⟨by repeat (first | (with_reducible first | exact HB.out | apply below_alloc | apply pw_below_drewN | apply below_drew1) | exact HB.out)⟩⟩
 case round =>
  clear H'
  try clear p2
  obtain ⟨x6_1, x14_1, rfl, HA, HK1, HO_0, HO_6, HB⟩ := hrel
  cases gk with
  | zero => exact absurd HA.out (by simp [rope_cutUp.l0])
  | succ k1 =>
   have H := HA.out
   clear HA
   simp only [rope_cutUp.l0] at H
   by_cases c3 : x14_1 < (wrap64 (Int.tdiv (wrap64 ((wrap64 ((l0.length : Int) + 64)) - 1)) 64))
   ·rw [if_pos c3] at H
    have c3b0 : decide (x14_1 < (wrap64 (Int.tdiv (wrap64 ((wrap64 ((l0.length : Int) + 64)) - 1)) 64))) = true := decide_eq_true c3
    clear c3
    by_cases c4 : (wrap64 (Int.tdiv (wrap64 ((wrap64 ((l0.length : Int) + 64)) - 1)) 64)) = 0
    ·rw [if_pos c4] at H
     exact absurd H (by simp)
    ·rw [if_neg c4] at H
     have c4b0 : ((wrap64 (Int.tdiv (wrap64 ((wrap64 ((l0.length : Int) + 64)) - 1)) 64)) == 0) = false := beq_eq_false_iff_ne.mpr c4
     have c4b1 : ((wrap64 (Int.tdiv (wrap64 ((wrap64 ((l0.length : Int) + 64)) - 1)) 64)) != 0) = true := bne_iff_ne.mpr c4
     obtain ⟨ji5, hji5⟩ : ∃ j_ : Int, (wrap64 (Int.tdiv (wrap64 (x14_1 * (l0.length : Int))) (wrap64 (Int.tdiv (wrap64 ((wrap64 ((l0.length : Int) + 64)) - 1)) 64)))) = j_ := ⟨_, rfl⟩
     replace H : (if 0 ≤ (ji5) then (if (ji5) ≤ (wrap64 (Int.tdiv (wrap64 ((wrap64 (x14_1 + 1)) * (l0.length : Int))) (wrap64 (Int.tdiv (wrap64 ((wrap64 ((l0.length : Int) + 64)) - 1)) 64)))) then (if (wrap64 (Int.tdiv (wrap64 ((wrap64 (x14_1 + 1)) * (l0.length : Int))) (wrap64 (Int.tdiv (wrap64 ((wrap64 ((l0.length : Int) + 64)) - 1)) 64)))) ≤ (l0.length : Int) then (if x6_1.length < 4398046511104 then (rope_cutUp.l0 k1 l0 a1 (wrap64 (Int.tdiv (wrap64 ((wrap64 ((l0.length : Int) + 64)) - 1)) 64)) (x6_1 ++ [(⟨((l0.take ((wrap64 (Int.tdiv (wrap64 ((wrap64 (x14_1 + 1)) * (l0.length : Int))) (wrap64 (Int.tdiv (wrap64 ((wrap64 ((l0.length : Int) + 64)) - 1)) 64)))) : Int).toNat).drop ((ji5) : Int).toNat), a1⟩ : S113)]) (wrap64 (Int.tdiv (wrap64 ((wrap64 ((l0.length : Int) + 64)) - 1)) 64)) (wrap64 (x14_1 + 1))) else (none)) else (none)) else (none)) else (none)) = some r := by first | (rw [hji5] at H; exact H) | (simp only [hji5] at H ⊢; exact H)
     have hji5w : (IntKind.i64.wrap (Int.tdiv (wrap64 (x14_1 * (l0.length : Int))) (wrap64 (Int.tdiv (wrap64 ((wrap64 ((l0.length : Int) + 64)) - 1)) 64)))) = ji5 := (i64_w _).trans hji5
     by_cases c6 : 0 ≤ (ji5)
     ·rw [if_pos c6] at H
      have c6b0 := eq_true c6
      have c6b1 : decide (0 ≤ (ji5)) = true := decide_eq_true c6
      clear c6
      by_cases c7 : (ji5) ≤ (wrap64 (Int.tdiv (wrap64 ((wrap64 (x14_1 + 1)) * (l0.length : Int))) (wrap64 (Int.tdiv (wrap64 ((wrap64 ((l0.length : Int) + 64)) - 1)) 64))))
      ·rw [if_pos c7] at H
       have c7b0 := eq_true c7
       have c7b1 : decide ((ji5) ≤ (wrap64 (Int.tdiv (wrap64 ((wrap64 (x14_1 + 1)) * (l0.length : Int))) (wrap64 (Int.tdiv (wrap64 ((wrap64 ((l0.length : Int) + 64)) - 1)) 64))))) = true := decide_eq_true c7
       by_cases c8 : (wrap64 (Int.tdiv (wrap64 ((wrap64 (x14_1 + 1)) * (l0.length : Int))) (wrap64 (Int.tdiv (wrap64 ((wrap64 ((l0.length : Int) + 64)) - 1)) 64)))) ≤ (l0.length : Int)
       ·rw [if_pos c8] at H
        have c8b0 := eq_true c8
        have c8b1 : decide ((wrap64 (Int.tdiv (wrap64 ((wrap64 (x14_1 + 1)) * (l0.length : Int))) (wrap64 (Int.tdiv (wrap64 ((wrap64 ((l0.length : Int) + 64)) - 1)) 64)))) ≤ (l0.length : Int)) = true := decide_eq_true c8
        obtain ⟨y114, hy114⟩ : ∃ y_ : List Int, y_ = ((l0.take ((wrap64 (Int.tdiv (wrap64 ((wrap64 (x14_1 + 1)) * (l0.length : Int))) (wrap64 (Int.tdiv (wrap64 ((wrap64 ((l0.length : Int) + 64)) - 1)) 64)))) : Int).toNat).drop ((ji5) : Int).toNat) := ⟨_, rfl⟩
        replace H : (if x6_1.length < 4398046511104 then (rope_cutUp.l0 k1 l0 a1 (wrap64 (Int.tdiv (wrap64 ((wrap64 ((l0.length : Int) + 64)) - 1)) 64)) (x6_1 ++ [(⟨y114, a1⟩ : S113)]) (wrap64 (Int.tdiv (wrap64 ((wrap64 ((l0.length : Int) + 64)) - 1)) 64)) (wrap64 (x14_1 + 1))) else (none)) = some r := by first | (rw [hy114]; with_reducible exact H) | (have H2_ := (Option.bind_some _ _).symm.trans H; rw [hy114]; with_reducible exact H2_) | (have H2_ := (Option.bind_some _ _).symm.trans H; with_reducible exact H2_) | with_reducible exact H | (rw [hy114]; exact H) | exact H
        have Ny114 := Aside0.mk hy114
        clear hy114
        by_cases c9 : x6_1.length < 4398046511104
        ·rw [if_pos c9] at H
         have LMc9 := Aside0.mk c9
         clear c9
         obtain ⟨y119, hy119⟩ : ∃ y_ : List (S113), y_ = (x6_1 ++ [(⟨y114, a1⟩ : S113)]) := ⟨_, rfl⟩
         replace H : (rope_cutUp.l0 k1 l0 a1 (wrap64 (Int.tdiv (wrap64 ((wrap64 ((l0.length : Int) + 64)) - 1)) 64)) y119 (wrap64 (Int.tdiv (wrap64 ((wrap64 ((l0.length : Int) + 64)) - 1)) 64)) (wrap64 (x14_1 + 1))) = some r := by first | (rw [hy119]; with_reducible exact H) | (have H2_ := (Option.bind_some _ _).symm.trans H; rw [hy119]; with_reducible exact H2_) | (have H2_ := (Option.bind_some _ _).symm.trans H; with_reducible exact H2_) | with_reducible exact H | (rw [hy119]; exact H) | exact H
         have Ny119 := Aside0.mk hy119
         clear hy119
         have H' := Aside0.mk H
         clear H
         try go_wp2
         have n0_ := Aside0.mk (Kd.V_drew HO_0.out)
         have n1_ := Aside0.mk (Kd.N_drew HO_6.out)
         have n2_ := Aside0.mk (below_drew1 HB.out)
         clear HO_0
         clear HO_6
         clear HB
         have HO_0 := n0_
         have HO_6 := n1_
         have HB := n2_
         clear n0_ n1_ n2_
         have q11 : ((wrap64 (Int.tdiv (wrap64 ((wrap64 (x14_1 + 1)) * (l0.length : Int))) (wrap64 (Int.tdiv (wrap64 ((wrap64 ((l0.length : Int) + 64)) - 1)) 64)))) : Int) ≤ ((l0.length : Int) : Int) := of_decide_eq_true (by first | (with_reducible assumption) | assumption)
         obtain ⟨i011, hi011, _, hsz11, _⟩ := info_parts info21
         have hroom11 : l0.length ≤ c0 := (Kd.V_reads' HO_0.out).2.1
         have hC11 : Kd.F (Kd.int .i32) _ _ A0 l0.length l0 := (Kd.V_at (base := w.heap.size) HO_0.out).2.2
         have ql11 : ((ji5) : Int) ≤ ((wrap64 (Int.tdiv (wrap64 ((wrap64 (x14_1 + 1)) * (l0.length : Int))) (wrap64 (Int.tdiv (wrap64 ((wrap64 ((l0.length : Int) + 64)) - 1)) 64)))) : Int) := of_decide_eq_true (by first | (with_reducible assumption) | assumption)
         have q011 : (0 : Int) ≤ ((ji5) : Int) := of_decide_eq_true (by first | (with_reducible assumption) | assumption)
         have hcut11 := cut_mid (P := Tryd.prog) 103 21 .i64 .i64 Tryd.underlying103 hi011 1 hsz11 A0 l0.length c0 (ji5) (wrap64 (Int.tdiv (wrap64 ((wrap64 (x14_1 + 1)) * (l0.length : Int))) (wrap64 (Int.tdiv (wrap64 ((wrap64 ((l0.length : Int) + 64)) - 1)) 64)))) q011 ql11 q11 hroom11
         have hr11 := Kd.F_mid (lo := ((ji5) : Int).toNat) (hi := ((wrap64 (Int.tdiv (wrap64 ((wrap64 (x14_1 + 1)) * (l0.length : Int))) (wrap64 (Int.tdiv (wrap64 ((wrap64 ((l0.length : Int) + 64)) - 1)) 64)))) : Int).toNat) (c := c0) hC11 (by omega) (by omega) hroom11
         obtain ⟨A11, hA11⟩ : ∃ A1, A1 = (if c0 = ((ji5) : Int).toNat then A0 else (A0 : Option Addr).map (·.add (((ji5) : Int).toNat * 1))) := ⟨_, rfl⟩
         obtain ⟨c11, hc11⟩ : ∃ c1, c1 = c0 - ((ji5) : Int).toNat := ⟨_, rfl⟩
         have hy11 : y114.length = ((wrap64 (Int.tdiv (wrap64 ((wrap64 (x14_1 + 1)) * (l0.length : Int))) (wrap64 (Int.tdiv (wrap64 ((wrap64 ((l0.length : Int) + 64)) - 1)) 64)))) : Int).toNat - ((ji5) : Int).toNat := (by rw [Ny114.out, List.length_drop, List.length_take] <;> omega)
         rw [show ((l0).take ((wrap64 (Int.tdiv (wrap64 ((wrap64 (x14_1 + 1)) * (l0.length : Int))) (wrap64 (Int.tdiv (wrap64 ((wrap64 ((l0.length : Int) + 64)) - 1)) 64)))) : Int).toNat).drop ((ji5) : Int).toNat = y114 from Ny114.out.symm] at hr11
         replace hr11 : Kd.F (Kd.int .i32) _ _ A11 y114.length y114 := (by rw [hA11]; exact hr11)
         rw [← hy11, ← hA11, ← hc11] at hcut11
         have HO118 := Aside0.mk (show Kd.V (Kd.int .i32) 21 _ w.heap.size _ (.slice A11 y114.length c11) y114 from Kd.V_mk (by rw [hy11, hc11]; exact Nat.sub_le_sub_right (Nat.le_trans (by omega) hroom11) _) hr11)
         have HC118 := Aside0.mk (show y114.length ≤ c11 from by rw [hy11, hc11]; exact Nat.sub_le_sub_right (Nat.le_trans (by omega) hroom11) _)
         clear hr11 hC11 hroom11 hi011 hsz11 hc11
         have KY11 := Aside0.mk hy11
         have KA11 := Aside0.mk hA11
         clear hy11 hA11
         replace q11 := eq_true q11
         refine start_ (n := 21) (S := fun w' => True) (ds := []) #[false, false, false, false, false, false, false, false, false, false, false, false, false, false, false, false, false, false, false, false, false] (by kernel_rfl) rfl rfl trivial (fun hHeld => ?_); refine with_tabW rope_cutUp.tab6 rope_cutUp.bits6 (fun HT_ HW_ => ?_)
         generalize wr.drew = w10 at HO_0 HO_6 HB HO118 hHeld ⊢
         refine pure_ (i := 0) (N := some 17) (v := ?_) (a' := ?_) #[true, false, false, false, false, false, false, false, false, false, false, false, false, false, false, false, false, false, false, false, false] rfl rfl (any_of HT_.out (by kernel_rfl)) (fun _ _ _ h => h) (Or.inl ⟨by rfl, ?_⟩) ?_ ?_
         rotate_left
         ·intro w'
          go_simp
          with_reducible rfl
         rotate_left
         ·simp only [Act.put, List.setIfInBounds_toArray, List.set_cons_zero, List.set_cons_succ, i64_w, i32_w]
          rfl
         refine pure_ (i := 1) (N := some 18) (v := ?_) (a' := ?_) #[true, true, false, false, false, false, false, false, false, false, false, false, false, false, false, false, false, false, false, false, false] rfl rfl (any_of HT_.out (by kernel_rfl)) (fun _ _ _ h => h) (Or.inl ⟨by rfl, ?_⟩) ?_ ?_
         rotate_left
         ·intro w'
          go_simp
          with_reducible rfl
         rotate_left
         ·simp only [Act.put, List.setIfInBounds_toArray, List.set_cons_zero, List.set_cons_succ, i64_w, i32_w]
          rfl
         refine pure_ (i := 2) (N := some 19) (v := ?_) (a' := ?_) #[true, true, true, false, false, false, false, false, false, false, false, false, false, false, false, false, false, false, false, false, false] rfl rfl (any_of HT_.out (by kernel_rfl)) (fun _ _ _ h => h) (Or.inl ⟨by rfl, ?_⟩) ?_ ?_
         rotate_left
         ·intro w'
          go_simp
          with_reducible rfl
         rotate_left
         ·simp only [Act.put, List.setIfInBounds_toArray, List.set_cons_zero, List.set_cons_succ, i64_w, i32_w]
          rfl
         refine pure_ (i := 3) (N := some 20) (v := ?_) (a' := ?_) #[true, true, true, true, false, false, false, false, false, false, false, false, false, false, false, false, false, false, false, false, false] rfl rfl (any_of HT_.out (by kernel_rfl)) (fun _ _ _ h => h) (Or.inl ⟨by rfl, ?_⟩) ?_ ?_
         rotate_left
         ·intro w'
          go_simp
          with_reducible rfl
         rotate_left
         ·simp only [Act.put, List.setIfInBounds_toArray, List.set_cons_zero, List.set_cons_succ, i64_w, i32_w]
          rfl
         refine pure_ (i := 4) (N := some 21) (v := ?_) (a' := ?_) #[true, true, true, true, true, false, false, false, false, false, false, false, false, false, false, false, false, false, false, false, false] rfl rfl (any_of HT_.out (by kernel_rfl)) (fun _ _ _ h => h) (Or.inl ⟨by rfl, ?_⟩) ?_ ?_
         rotate_left
         ·intro w'
          go_simp
          with_reducible rfl
         rotate_left
         ·simp only [Act.put, List.setIfInBounds_toArray, List.set_cons_zero, List.set_cons_succ, i64_w, i32_w]
          rfl
         refine pure_ (i := 5) (N := some 22) (v := ?_) (a' := ?_) #[true, true, true, true, true, true, false, false, false, false, false, false, false, false, false, false, false, false, false, false, false] rfl rfl (any_of HT_.out (by kernel_rfl)) (fun _ _ _ h => h) (Or.inl ⟨by rfl, ?_⟩) ?_ ?_
         rotate_left
         ·intro w'
          go_simp
          with_reducible rfl
         rotate_left
         ·simp only [Act.put, List.setIfInBounds_toArray, List.set_cons_zero, List.set_cons_succ, i64_w, i32_w]
          rfl
         refine pure_ (i := 6) (N := some 23) (v := ?_) (a' := ?_) #[true, true, true, true, true, true, true, false, false, false, false, false, false, false, false, false, false, false, false, false, false] rfl rfl (any_of HT_.out (by kernel_rfl)) (fun _ _ _ h => h) (Or.inl ⟨by rfl, ?_⟩) ?_ ?_
         rotate_left
         ·intro w'
          go_simp
          with_reducible rfl
         rotate_left
         ·simp only [Act.put, List.setIfInBounds_toArray, List.set_cons_zero, List.set_cons_succ, i64_w, i32_w]
          rfl
         refine pure_ (i := 7) (N := some 24) (v := ?_) (a' := ?_) #[true, true, true, true, true, true, true, true, false, false, false, false, false, false, false, false, false, false, false, false, false] rfl rfl (any_of HT_.out (by kernel_rfl)) (fun _ _ _ h => h) (Or.inl ⟨by rfl, ?_⟩) ?_ ?_
         rotate_left
         ·intro w'
          go_simp
          with_reducible rfl
         rotate_left
         ·simp only [Act.put, List.setIfInBounds_toArray, List.set_cons_zero, List.set_cons_succ, i64_w, i32_w]
          rfl
         refine pure_ (i := 8) (N := some 25) (v := ?_) (a' := ?_) #[true, true, true, true, true, true, true, true, true, false, false, false, false, false, false, false, false, false, false, false, false] rfl rfl (any_of HT_.out (by kernel_rfl)) (fun _ _ _ h => h) (Or.inl ⟨by rfl, ?_⟩) ?_ ?_
         rotate_left
         ·intro w'
          go_simp
          with_reducible rfl
         rotate_left
         ·simp only [Act.put, List.setIfInBounds_toArray, List.set_cons_zero, List.set_cons_succ, i64_w, i32_w]
          rfl
         refine pure_ (i := 9) (N := some 26) (v := ?_) (a' := ?_) #[true, true, true, true, true, true, true, true, true, true, false, false, false, false, false, false, false, false, false, false, false] rfl rfl (any_of HT_.out (by kernel_rfl)) (fun _ _ _ h => h) (Or.inl ⟨by rfl, ?_⟩) ?_ ?_
         rotate_left
         ·intro w'
          go_simp
          with_reducible rfl
         rotate_left
         ·simp only [Act.put, List.setIfInBounds_toArray, List.set_cons_zero, List.set_cons_succ, i64_w, i32_w]
          rfl
         refine pure_ (i := 10) (N := some 27) (v := ?_) (a' := ?_) #[true, true, true, true, true, true, true, true, true, true, true, false, false, false, false, false, false, false, false, false, false] rfl rfl (any_of HT_.out (by kernel_rfl)) (fun _ _ _ h => h) (Or.inl ⟨by rfl, ?_⟩) ?_ ?_
         rotate_left
         ·intro w'
          go_simp
          with_reducible rfl
         rotate_left
         ·simp only [Act.put, List.setIfInBounds_toArray, List.set_cons_zero, List.set_cons_succ, i64_w, i32_w]
          rfl
         refine pure_ (i := 11) (N := some 28) (v := ?_) (a' := ?_) #[true, true, true, true, true, true, true, true, true, true, true, true, false, false, false, false, false, false, false, false, false] rfl rfl (any_of HT_.out (by kernel_rfl)) (fun _ _ _ h => h) (Or.inl ⟨by rfl, ?_⟩) ?_ ?_
         rotate_left
         ·intro w'
          go_simp
          with_reducible rfl
         rotate_left
         ·simp only [Act.put, List.setIfInBounds_toArray, List.set_cons_zero, List.set_cons_succ, i64_w, i32_w]
          rfl
         refine pure_ (i := 12) (N := some 29) (v := ?_) (a' := ?_) #[true, true, true, true, true, true, true, true, true, true, true, true, true, false, false, false, false, false, false, false, false] rfl rfl (any_of HT_.out (by kernel_rfl)) (fun _ _ _ h => h) (Or.inl ⟨by rfl, ?_⟩) ?_ ?_
         rotate_left
         ·intro w'
          go_simp
          with_reducible rfl
         rotate_left
         ·simp only [Act.put, List.setIfInBounds_toArray, List.set_cons_zero, List.set_cons_succ, i64_w, i32_w]
          rfl
         refine pure_ (i := 13) (N := some 30) (v := ?_) (a' := ?_) #[true, true, true, true, true, true, true, true, true, true, true, true, true, true, false, false, false, false, false, false, false] rfl rfl (any_of HT_.out (by kernel_rfl)) (fun _ _ _ h => h) (Or.inl ⟨by rfl, ?_⟩) ?_ ?_
         rotate_left
         ·intro w'
          go_simp
          with_reducible rfl
         rotate_left
         ·simp only [Act.put, List.setIfInBounds_toArray, List.set_cons_zero, List.set_cons_succ, i64_w, i32_w]
          rfl
         refine pure_ (i := 14) (N := some 31) (v := ?_) (a' := ?_) #[true, true, true, true, true, true, true, true, true, true, true, true, true, true, true, false, false, false, false, false, false] rfl rfl (any_of HT_.out (by kernel_rfl)) (fun _ _ _ h => h) (Or.inl ⟨by rfl, ?_⟩) ?_ ?_
         rotate_left
         ·intro w'
          go_simp
          with_reducible rfl
         rotate_left
         ·simp only [Act.put, List.setIfInBounds_toArray, List.set_cons_zero, List.set_cons_succ, i64_w, i32_w]
          rfl
         refine pure_ (i := 15) (N := some 32) (v := ?_) (a' := ?_) #[true, true, true, true, true, true, true, true, true, true, true, true, true, true, true, true, false, false, false, false, false] rfl rfl (any_of HT_.out (by kernel_rfl)) (fun _ _ _ h => h) (Or.inl ⟨by rfl, ?_⟩) ?_ ?_
         rotate_left
         ·intro w'
          go_simp
          with_reducible rfl
         rotate_left
         ·simp only [Act.put, List.setIfInBounds_toArray, List.set_cons_zero, List.set_cons_succ, i64_w, i32_w]
          rfl
         refine pure_ (i := 16) (N := some 33) (v := ?_) (a' := ?_) #[true, true, true, true, true, true, true, true, true, true, true, true, true, true, true, true, true, false, false, false, false] rfl rfl (any_of HT_.out (by kernel_rfl)) (fun _ _ _ h => h) (Or.inl ⟨by rfl, ?_⟩) ?_ ?_
         rotate_left
         ·intro w'
          go_simp
          with_reducible rfl
         rotate_left
         ·simp only [Act.put, List.setIfInBounds_toArray, List.set_cons_zero, List.set_cons_succ, i64_w, i32_w]
          rfl
         refine pure_ (i := 17) (N := some 34) (v := ?_) (a' := ?_) #[true, true, true, true, true, true, true, true, true, true, true, true, true, true, true, true, true, true, false, false, false] rfl rfl (any_of HT_.out (by kernel_rfl)) (fun _ _ _ h => h) (Or.inl ⟨by rfl, ?_⟩) ?_ ?_
         rotate_left
         ·intro w'
          go_simp
          with_reducible rfl
         rotate_left
         ·simp only [Act.put, List.setIfInBounds_toArray, List.set_cons_zero, List.set_cons_succ, i64_w, i32_w]
          rfl
         refine one_ (i := 18) (N := some 35) #[true, true, true, true, true, true, true, true, true, true, true, true, true, true, true, true, true, true, true, false, false] rfl rfl (one_of HT_.out (by kernel_rfl)) (by decide) (fun K hK => ?_)
         refine value_ (w1 := ?_) (v := ?_) (by rfl) rfl ?_ ?_
         rotate_left 2
         ·go_simp
          constructor
          ·rfl
          ·rfl
         refine hK.out _ _ trivial (fun hHeld => ?_)
         clear hK K
         refine norm_ (a' := ?_) ?_ ?_
         rotate_left
         ·show Act.put _ (some 35) _ = _
          simp only [Act.put, List.setIfInBounds_toArray, List.set_cons_zero, List.set_cons_succ, i64_w, i32_w]
          rfl
         refine one_ (i := 19) (N := some 36) #[true, true, true, true, true, true, true, true, true, true, true, true, true, true, true, true, true, true, true, true, false] rfl rfl (one_of HT_.out (by kernel_rfl)) (by decide) (fun K hK => ?_)
         refine Kd.N_append_step k113 (w0 := w) w.heap.size (by rfl) (.tmp 17) (.tmp 35) 101 113 (.agg #[(.slice none 0 0), (.int .i64 0)]) 32 rfl Tryd.underlying101 info113 rfl (by decide) (by omega) u6 x6_1 (⟨y114, a1⟩ : S113) [.slice A11 y114.length c11, .int .i64 a1] (fun k_ => (P0_ k_ ∨ w.heap.size ≤ k_)) (fun k_ => ((fun k_ => (P0_ k_ ∨ w.heap.size ≤ k_))) k_ ∧ some k_ ≠ (u6 : Value).ownBlock) rfl rfl ?aP (fun _ hk => hk) ?aF ?aO ?aB ?aS ?aL ?_
         (case aP => exact (k113_mkF _ _ (⟨y114, a1⟩ : S113) (Kd.V_reads' (Kd.V_mono (ok' := (fun k_ => ((fun k_ => (P0_ k_ ∨ w.heap.size ≤ k_))) k_ ∧ some k_ ≠ (u6 : Value).ownBlock)) (HO118.out) (fun k_ hk => ⟨hk.1, hk.2⟩))).2.1 (Kd.V_F (Kd.V_mono (ok' := (fun k_ => ((fun k_ => (P0_ k_ ∨ w.heap.size ≤ k_))) k_ ∧ some k_ ≠ (u6 : Value).ownBlock)) (HO118.out) (fun k_ hk => ⟨hk.1, hk.2⟩)))))
         (case aB => exact (by repeat (first | (with_reducible first | exact HB.out | apply below_alloc | apply pw_below_drewN | apply below_drew1) | exact HB.out)))
         (case aF => exact (fun k_ hk => (.inr (Nat.le_trans (below_size (by repeat (first | (with_reducible first | exact HB.out | apply below_alloc | apply pw_below_drewN | apply below_drew1) | exact HB.out))) hk))))
         (case aO => exact (by (with_reducible repeat (first | apply Kd.N_alloc | apply Kd.N_drewN | apply Kd.N_drew)); exact HO_6.out))
         (case aS => exact (below_size (by repeat (first | (with_reducible first | exact HB.out | apply below_alloc | apply pw_below_drewN | apply below_drew1) | exact HB.out))))
         (case aL => have := LMc9.out; omega)
         intro v120 w12 ho hb hg hat
         rw [← Ny119.out] at ho
         have n0_ := Aside0.mk (Kd.V_afterv (ok := (fun k_ => (P0_ k_ ∨ w.heap.size ≤ k_))) (by (with_reducible repeat (first | apply Kd.V_alloc | apply Kd.V_drewN | apply Kd.V_drew)); exact HO_0.out) hg hat)
         have n1_ := Aside0.mk (Kd.V_afterv (ok := (fun k_ => (P0_ k_ ∨ w.heap.size ≤ k_))) (by (with_reducible repeat (first | apply Kd.V_alloc | apply Kd.V_drewN | apply Kd.V_drew)); exact HO118.out) hg hat)
         have n2_ := Aside0.mk (hb)
         have n3_ := Aside0.mk (ho)
         clear HO_0
         clear HO118
         clear HB
         clear HO_6
         have HO_0 := n0_
         have HO118 := n1_
         have HB := n2_
         have HO121 := n3_
         clear n0_ n1_ n2_ n3_
         clear ho hb hg hat
         refine hK.out _ _ trivial (fun hHeld => ?_)
         clear hK K
         refine norm_ (a' := ?_) ?_ ?_
         rotate_left
         ·show Act.put _ (some 36) _ = _
          simp only [Act.put, List.setIfInBounds_toArray, List.set_cons_zero, List.set_cons_succ, i64_w, i32_w]
          rfl
         refine pure_ (i := 20) (N := some 6) (v := ?_) (a' := ?_) #[true, true, true, true, true, true, true, true, true, true, true, true, true, true, true, true, true, true, true, true, true] rfl rfl (any_of HT_.out (by kernel_rfl)) (fun _ _ _ h => h) (Or.inl ⟨by rfl, ?_⟩) ?_ ?_
         rotate_left
         ·intro w'
          go_simp
          with_reducible rfl
         rotate_left
         ·simp only [Act.put, List.setIfInBounds_toArray, List.set_cons_zero, List.set_cons_succ, i64_w, i32_w]
          rfl
         refine done_ (done_of HT_.out (by kernel_rfl)) ?_
         try go_wp2
         go_roundg k1
         case measure => have := HK1.out; omega
         case rel => exact ⟨(y119), (wrap64 (x14_1 + 1)), (by first | rfl | (simp; done) | (simp [*]; done)), H', ⟨by have := HK1.out; omega⟩, ⟨by (with_reducible repeat (first | apply Kd.V_alloc | apply Kd.V_drewN | apply Kd.V_drew)); exact HO_0.out⟩, ⟨by (with_reducible repeat (first | apply Kd.N_alloc | apply Kd.N_drewN | apply Kd.N_drew)); exact HO121.out⟩, ⟨by repeat (first | (with_reducible first | exact HB.out | apply below_alloc | apply pw_below_drewN | apply below_drew1) | exact HB.out)⟩⟩
        ·rw [if_neg c9] at H
         exact absurd H (by simp)
       ·rw [if_neg c8] at H
        exact absurd H (by simp)
      ·rw [if_neg c7] at H
       exact absurd H (by simp)
     ·rw [if_neg c6] at H
      exact absurd H (by simp)
   ·rw [if_neg c3] at H
    have c3b0 : decide (x14_1 < (wrap64 (Int.tdiv (wrap64 ((wrap64 ((l0.length : Int) + 64)) - 1)) 64))) = false := decide_eq_false c3
    clear c3
    obtain rfl := Option.some.inj H
    go_wp2
    go_ret
    exact ⟨_, by first | rfl | (simp [errW_none, errW_some] <;> rfl) | (simp [*, errW_none, errW_some] <;> rfl), by (with_reducible repeat (first | apply Kd.N_alloc | apply Kd.N_drewN | apply Kd.N_drew)); exact HO_6.out, by repeat (first | (with_reducible first | exact HB.out | apply below_alloc | apply pw_below_drewN | apply below_drew1) | exact HB.out)⟩
end Go.Proofs.YteeigokkafcaaaaDoor.Pr
end
section
namespace Go.Proofs.YteeigokkafcaaaaDoorRope
open Go.RowKit Go.Proofs.YteeigokkafcaaaaDoorW.PrintWords Go.Proofs.YteeigokkafcaaaaDoorW.PrintMore
set_option linter.unusedSimpArgs false
set_option linter.unusedVariables false
theorem bcell {W w1 : World} (hb : Below W.heap.size W w1) {b o : Nat} {x : Value} (h : W.cell? ⟨b, o, none⟩ = some x) : w1.cell? ⟨b, o, none⟩ = some x := by
  have := World.block_lt_of_cell? W _ h
  rw [hb.cell (p := ⟨b, o, none⟩) this]
  exact h
theorem heap_new (w : World) (o : Obj) : (w.alloc o).heap[w.heap.size]? = some o := by
  show (w.heap.push o)[w.heap.size]? = some o
  simp
theorem _root_.Go.RowKit.Below.drewN {B : Nat} {a w : World} (h : Below B a w) (n : Nat) : Below B a (w.drewN n) := ⟨h.os, h.tape, h.output, h.size, h.block⟩
theorem sm_lift_node (l : Tree) (rs : List Int) (hid : Int) (r : Tree) (plus b : Int) : (Tree.node l rs hid r (plus + b)).sm = (Tree.node l rs hid r plus).sm.lifted b := by
  simp only [Tree.sm, Sm.lifted, Int.add_assoc]
theorem cell_set2 {W : World} {P b o : Nat} {x u v : Value} (hne : P ≠ b) (h : W.cell? ⟨b, o, none⟩ = some x) : ((W.setCell ⟨P, 0, none⟩ u).setCell ⟨P, 1, none⟩ v).cell? ⟨b, o, none⟩ = some x := by
  rw [World.cell?_setCell_far _ _ _ _ hne, World.cell?_setCell_far _ _ _ _ hne]
  exact h
theorem size_set2 {W : World} {P n : Nat} {u v : Value} (h : n ≤ W.heap.size) : n ≤ ((W.setCell ⟨P, 0, none⟩ u).setCell ⟨P, 1, none⟩ v).heap.size := by
  simp [World.setCell]; exact h
theorem Rep.set2 {K : Nat → Prop} {W : World} {t : Tree} {v : Value} {P : Nat} {u1 u2 : Value} (h : Rep K W t v) (hP : ¬ K P) : Rep K ((W.setCell ⟨P, 0, none⟩ u1).setCell ⟨P, 1, none⟩ u2) t v :=
  h.move fun k hk _ => (Below.heap_setCell _ _ _ _ (fun e => hP (by rw [← show k = P from e]; exact hk))).trans (Below.heap_setCell _ _ _ _ (fun e => hP (by rw [← show k = P from e]; exact hk)))
theorem RunesAt.set2 {W : World} {A : Option Addr} {l : List Int} {P : Nat} {u1 u2 : Value} (h : RunesAt W A l) (hP : ∀ ad, A = some ad → ad.block ≠ P) : RunesAt ((W.setCell ⟨P, 0, none⟩ u1).setCell ⟨P, 1, none⟩ u2) A l :=
  h.move fun ad e _ => (Below.heap_setCell _ _ _ _ (hP ad e)).trans (Below.heap_setCell _ _ _ _ (hP ad e))
theorem below_set2 {B : Nat} {W W' : World} {P : Nat} {u1 u2 : Value} (h : Below B W W') (hP : B ≤ P) : Below B W ((W'.setCell ⟨P, 0, none⟩ u1).setCell ⟨P, 1, none⟩ u2) := (h.setCell (p := ⟨P, 0, none⟩) hP u1).setCell (p := ⟨P, 1, none⟩) hP u2
theorem of_set2 {W : World} {P : Nat} {x y u1 u2 : Value} (h0 : W.cell? ⟨P, 0, none⟩ = some x) (h1 : W.cell? ⟨P, 1, none⟩ = some y) : ((W.setCell ⟨P, 0, none⟩ u1).setCell ⟨P, 1, none⟩ u2).cell? ⟨P, 0, none⟩ = some u1 ∧ ((W.setCell ⟨P, 0, none⟩ u1).setCell ⟨P, 1, none⟩ u2).cell? ⟨P, 1, none⟩ = some u2 := by
  have hne : (⟨P, 0, none⟩ : Addr) ≠ ⟨P, 1, none⟩ := fun e => by cases e
  constructor
  · rw [World.cell?_setCell_other _ _ _ _ hne.symm]
    exact World.cell?_setCell_same _ _ _ h0
  · refine World.cell?_setCell_same _ _ _ (u := y) ?_
    rw [World.cell?_setCell_other _ _ _ _ hne]
    exact h1
theorem bfroz {W w1 : World} (hb : Below W.heap.size W w1) {b o : Nat} {x : Bool} (h : W.frozen? ⟨b, o, none⟩ = x) (hl : b < W.heap.size) : w1.frozen? ⟨b, o, none⟩ = x := by
  rw [hb.frozen (p := ⟨b, o, none⟩) hl]
  exact h
theorem Tree.Good.fit {t : Tree} {b : Int} (h : t.Good b) (hb : -1048577 ≤ b ∧ b ≤ 1048577) : (-4194304 ≤ t.sm.mi ∧ t.sm.mi ≤ 4194304) ∧ (-4194304 ≤ t.sm.ma ∧ t.sm.ma ≤ 4194304) := by
  have hs := h.sums
  have hi := h.cells
  by_cases c : t.cells = []
  · have := hs.none_ c; omega
  · obtain ⟨⟨x, hx, ex⟩, ⟨y, hy, ey⟩⟩ := hs.some_ c
    have h1 := hi x hx
    have h2 := hi y hy
    omega
set_option maxRecDepth 100000 in
set_option maxHeartbeats 4000000 in
theorem lift_node {w : World} {a : Nat} {t1 t2 t3 t4 t5 t6 hid plus b : Int} {vl vr : Value} {A : Option Addr} {n c : Nat} (hne : b ≠ 0) (hlt : a < w.heap.size) (hh : w.heap[a]? = some (.cells #[.int .i64 t1, .int .i64 t2, .int .i64 t3, .int .i64 t4, .int .i64 t5, .int .i64 t6, vl, vr, .slice A n c, .int .i64 hid, .int .i64 plus] 153 (0, 0)))
    (hv1 : ∃ p, vl = .pointer p) (hv2 : ∃ p, vr = .pointer p) (hb1 : -8388608 ≤ b) (hb2 : b ≤ 8388608) (h41 : -4194304 ≤ t4) (h42 : t4 ≤ 4194304) (h61 : -4194304 ≤ t6) (h62 : t6 ≤ 4194304) (hp1 : -8388608 ≤ plus) (hp2 : plus ≤ 8388608) :
    Calls Tryd.prog 75 #[.pointer (some ⟨a, 0, none⟩), .int .i64 b] w fun e w' => ∃ g, e = .returned (.pointer (some ⟨g, 0, none⟩)) ∧ w'.heap[g]? = some (.cells #[.int .i64 t1, .int .i64 t2, .int .i64 t3, .int .i64 (t4 + b), .int .i64 t5, .int .i64 (t6 + b), vl, vr, .slice A n c, .int .i64 hid, .int .i64 (plus + b)] 153 (0, 0)) ∧ w.heap.size ≤ g ∧ Below w.heap.size w w' := by
  obtain ⟨pl, rfl⟩ := hv1
  obtain ⟨pr, rfl⟩ := hv2
  have hl := lifted_calls ⟨t1, t2, t4, t5, t6⟩ t3 b ⟨hb1, hb2⟩ ⟨by dsimp only; omega, by dsimp only; omega⟩ ⟨by dsimp only; omega, by dsimp only; omega⟩
  simp only [smVal, Sm.lifted] at hl
  have c0 : w.cell? ⟨a, 0, none⟩ = some (.int .i64 t1) := by simp [World.cell?, hh]
  have c1 : w.cell? ⟨a, 1, none⟩ = some (.int .i64 t2) := by simp [World.cell?, hh]
  have c2 : w.cell? ⟨a, 2, none⟩ = some (.int .i64 t3) := by simp [World.cell?, hh]
  have c3 : w.cell? ⟨a, 3, none⟩ = some (.int .i64 t4) := by simp [World.cell?, hh]
  have c4 : w.cell? ⟨a, 4, none⟩ = some (.int .i64 t5) := by simp [World.cell?, hh]
  have c5 : w.cell? ⟨a, 5, none⟩ = some (.int .i64 t6) := by simp [World.cell?, hh]
  have c6 : w.cell? ⟨a, 6, none⟩ = some (.pointer pl) := by simp [World.cell?, hh]
  have c7 : w.cell? ⟨a, 7, none⟩ = some (.pointer pr) := by simp [World.cell?, hh]
  have c8 : w.cell? ⟨a, 8, none⟩ = some (.slice A n c) := by simp [World.cell?, hh]
  have c9 : w.cell? ⟨a, 9, none⟩ = some (.int .i64 hid) := by simp [World.cell?, hh]
  have c10 : w.cell? ⟨a, 10, none⟩ = some (.int .i64 plus) := by simp [World.cell?, hh]
  clear hh
  have hd : ((t4 + b) == t4) = false := by simp; omega
  go_enter Tryd.func75, Tryd.ntmps75
  go_wp2_with (go_at_call 106; refine (hl w).mono ?_; rintro e w1 ⟨rfl, hb⟩)
  have d0 := bcell hb c0
  have d1 := bcell hb c1
  have d2 := bcell hb c2
  have d3 := bcell hb c3
  have d4 := bcell hb c4
  have d5 := bcell hb c5
  have d6 := bcell hb c6
  have d7 := bcell hb c7
  have d8 := bcell hb c8
  have d9 := bcell hb c9
  have d10 := bcell hb c10
  have hlt1 : a < w1.heap.size := Nat.lt_of_lt_of_le hlt hb.size
  clear c0 c1 c2 c3 c4 c5 c6 c7 c8 c9 c10
  go_quiet (fail)
  go_wp2
  go_ret
  refine ⟨_, rfl, ?_, by have := hb.size; omega, ?_⟩
  · have := heap_new ((w1.alloc (.cells #[.int .i64 t1, .int .i64 t2, .int .i64 t3, .int .i64 (t4 + b), .int .i64 t5, .int .i64 (t6 + b)] 110)).drewN nq) (.cells #[.int .i64 t1, .int .i64 t2, .int .i64 t3, .int .i64 (t4 + b), .int .i64 t5, .int .i64 (t6 + b), .pointer pl, .pointer pr, .slice A n c, .int .i64 hid, .int .i64 (plus + b)] 153)
    simpa using this
  · exact hb.trans ((((Below.refl _ w1).alloc (Nat.le_refl _) _).drewN nq |>.alloc (by simp) _).mono hb.size)
set_option maxRecDepth 100000 in
set_option maxHeartbeats 4000000 in
theorem lift_zero {w : World} {a : Nat} {t1 t2 t3 t4 t5 t6 : Int} (hlt : a < w.heap.size) (c0 : w.cell? ⟨a, 0, none⟩ = some (.int .i64 t1)) (c1 : w.cell? ⟨a, 1, none⟩ = some (.int .i64 t2)) (c2 : w.cell? ⟨a, 2, none⟩ = some (.int .i64 t3)) (c3 : w.cell? ⟨a, 3, none⟩ = some (.int .i64 t4)) (c4 : w.cell? ⟨a, 4, none⟩ = some (.int .i64 t5)) (c5 : w.cell? ⟨a, 5, none⟩ = some (.int .i64 t6))
    (h41 : -4194304 ≤ t4) (h42 : t4 ≤ 4194304) (h61 : -4194304 ≤ t6) (h62 : t6 ≤ 4194304) :
    Calls Tryd.prog 75 #[.pointer (some ⟨a, 0, none⟩), .int .i64 0] w fun e w' => e = .returned (.pointer (some ⟨a, 0, none⟩)) ∧ Below w.heap.size w w' := by
  have hl := lifted_calls ⟨t1, t2, t4, t5, t6⟩ t3 0 ⟨by omega, by omega⟩ ⟨by dsimp only; omega, by dsimp only; omega⟩ ⟨by dsimp only; omega, by dsimp only; omega⟩
  simp only [smVal, Sm.lifted, Int.add_zero] at hl
  go_enter Tryd.func75, Tryd.ntmps75
  go_wp2_with (go_at_call 106; refine (hl w).mono ?_; rintro e w1 ⟨rfl, hb⟩)
  have d0 := bcell hb c0
  have d1 := bcell hb c1
  have d2 := bcell hb c2
  have d3 := bcell hb c3
  have d4 := bcell hb c4
  have d5 := bcell hb c5
  have hlt1 : a < w1.heap.size := Nat.lt_of_lt_of_le hlt hb.size
  clear c0 c1 c2 c3 c4 c5
  go_quiet (fail)
  go_wp2
  go_ret
  exact ⟨rfl, hb.trans ((((Below.refl _ w1).alloc (Nat.le_refl _) _).drewN nq).mono hb.size)⟩
set_option maxRecDepth 100000 in
set_option maxHeartbeats 4000000 in
theorem lift_nil (b : Int) (w : World) : Calls Tryd.prog 75 #[.pointer none, .int .i64 b] w fun e w' => e = .returned (.pointer none) ∧ Below w.heap.size w w' := by
  go_enter Tryd.func75, Tryd.ntmps75
  go_wp2
  go_ret
  exact ⟨rfl, by (repeat first | exact Below.refl _ _ | assumption | refine Below.drew ?_ | refine Below.alloc ?_ (by simp; try omega) _ | refine Below.setCell ?_ (by simp; try omega) _)⟩
theorem lift_zero_tree (t : Tree) : t.lift 0 = t := by cases t <;> simp [Tree.lift]
theorem Rep.drewIff {K : Nat → Prop} {W : World} {t : Tree} {v : Value} : Rep K W.drew t v ↔ Rep K W t v := ⟨fun h => Rep.below h (show Below W.drew.heap.size W.drew W from ⟨rfl, rfl, rfl, Nat.le_refl _, fun _ _ => rfl⟩), fun h => Rep.below h (Below.refl _ W).drew⟩
attribute [local simp] Rep.drewIff
theorem lift_calls {K : Nat → Prop} {w : World} {t : Tree} {v : Value} {b : Int} (h : Rep K w t v) (hg : t.Good b) (hb : -1048577 ≤ b ∧ b ≤ 1048577) : Calls Tryd.prog 75 #[v, .int .i64 b] w fun e w' => ∃ v', e = .returned v' ∧ Rep (KU K w.heap.size) w' (t.lift b) v' ∧ Below w.heap.size w w' := by
  have hf := hg.fit hb
  cases t with
  | nil =>
    cases h
    exact (lift_nil b w).mono fun e w' ⟨he, hb⟩ => ⟨_, he, rfl, hb⟩
  | node l rs hid r plus =>
    obtain ⟨a, vl, vr, A, c, rfl, hh, ha, hc, hr, hA, h1, h2⟩ := h
    have hlt := (Array.getElem?_eq_some_iff.1 hh).1
    obtain ⟨g1, g2, g3, g4, g5, g6, g7, g8, g9⟩ := hg
    by_cases hb0 : b = 0
    · subst hb0
      refine (lift_zero hlt (node_cell hh rfl) (node_cell hh rfl) (node_cell hh rfl) (node_cell hh rfl) (node_cell hh rfl) (node_cell hh rfl) hf.1.1 hf.1.2 hf.2.1 hf.2.2).mono ?_
      rintro e w' ⟨he, hb'⟩
      rw [lift_zero_tree]
      exact ⟨_, he, Rep.mono KU.of (Rep.below (t := .node l rs hid r plus) ⟨a, vl, vr, A, c, rfl, hh, ha, hc, hr, hA, h1, h2⟩ hb'), hb'⟩
    · refine (lift_node hb0 hlt hh h1.ptr h2.ptr (by omega) (by omega) hf.1.1 hf.1.2 hf.2.1 hf.2.2 (by omega) (by omega)).mono ?_
      rintro e w' ⟨g, he, hg', hgl, hb'⟩
      refine ⟨_, he, ⟨g, vl, vr, A, c, rfl, ?_, .inr hgl, hc, Kd.C_below hr hb', fun ad e => .inl (hA ad e), (h1.below hb').mono KU.of, (h2.below hb').mono KU.of⟩, hb'⟩
      rw [hg']
      have e1 := sm_lift_node l rs hid r plus b
      simp only [nodeCells, e1]
      rfl
set_option maxRecDepth 100000 in
set_option maxHeartbeats 4000000 in
theorem open_calls {K : Nat → Prop} {w : World} {l r : Tree} {rs : List Int} {hid plus : Int} {v : Value} (hK : ∀ k, K k → k < w.heap.size) (h : Rep K w (.node l rs hid r plus) v) (hg : (Tree.node l rs hid r plus).Good 0) : Calls Tryd.prog 60 #[v] w fun e w' => ∃ v1 v2 A c, e = .returned (.tuple #[v1, .agg #[.slice A rs.length c, .int .i64 (hid + plus)], v2]) ∧ Rep (KU K w.heap.size) w' (l.lift plus) v1 ∧ Rep (KU K w.heap.size) w' (r.lift plus) v2 ∧ RunesAt w' A rs ∧ (∀ ad, A = some ad → K ad.block) ∧ rs.length ≤ c ∧ Below w.heap.size w w' := by
  obtain ⟨a, vl, vr, A, c, rfl, hh, ha, hc, hr, hA, h1, h2⟩ := h
  obtain ⟨g1, g2, g3, g4, g5, g6, g7, g8, g9⟩ := hg
  rw [Int.add_zero] at g4 g5 g8 g9
  have hlt := (Array.getElem?_eq_some_iff.1 hh).1
  have c6 : w.cell? ⟨a, 6, none⟩ = some vl := node_cell hh rfl
  have c7 : w.cell? ⟨a, 7, none⟩ = some vr := node_cell hh rfl
  have c8 : w.cell? ⟨a, 8, none⟩ = some (.slice A rs.length c) := node_cell hh rfl
  have c9 : w.cell? ⟨a, 9, none⟩ = some (.int .i64 hid) := node_cell hh rfl
  have c10 : w.cell? ⟨a, 10, none⟩ = some (.int .i64 plus) := node_cell hh rfl
  obtain ⟨pl, rfl⟩ := h1.ptr
  obtain ⟨pr, rfl⟩ := h2.ptr
  have hpb : -1048577 ≤ plus ∧ plus ≤ 1048577 := by omega
  obtain ⟨hp1, hp2⟩ := hpb
  clear hh g6 g7
  go_enter Tryd.func60, Tryd.ntmps60
  go_wp2
  go_region
  all_goals
    obtain ⟨W3, hW3⟩ : ∃ W3, ((w.alloc (.cells #[.slice none 0 0, .int .i64 0] 113)).alloc (.cells #[.slice A rs.length c, .int .i64 (hid + plus)] 113)).drew = W3 := ⟨_, rfl⟩
    have hb3 : Below w.heap.size w W3 := by rw [← hW3]; (repeat first | exact Below.refl _ _ | assumption | refine Below.drew ?_ | refine Below.alloc ?_ (by simp; try omega) _ | refine Below.setCell ?_ (by simp; try omega) _)
    have z3 : W3.heap.size = w.heap.size + 1 + 1 := by rw [← hW3]; simp
    have p0 : W3.cell? ⟨w.heap.size, 0, none⟩ = some (.slice none 0 0) := by rw [← hW3]; simp
    have p1 : W3.cell? ⟨w.heap.size, 1, none⟩ = some (.int .i64 0) := by rw [← hW3]; simp
    have pf : W3.frozen? ⟨w.heap.size, 0, none⟩ = false := by rw [← hW3]; simp
    have pf1 : W3.frozen? ⟨w.heap.size, 1, none⟩ = false := by rw [← hW3]; simp
    have q0 : W3.cell? ⟨w.heap.size + 1, 0, none⟩ = some (.slice A rs.length c) := by rw [← hW3]; simp
    have q1 : W3.cell? ⟨w.heap.size + 1, 1, none⟩ = some (.int .i64 (hid + plus)) := by rw [← hW3]; simp
    rw [hW3]
    have d6 := bcell hb3 c6
    have d7 := bcell hb3 c7
    have d10 := bcell hb3 c10
    have e1 := h1.below hb3
    have e2 := h2.below hb3
    have er := Kd.C_below hr hb3
    clear c6 c7 c8 c9 c10 h1 h2 hr hW3
    have tok1 : True := trivial
    have ea : w.heap.size ≠ a := by omega
    go_wp2
    go_region_held3 (fun W' => W'.cell? ⟨a, 6, none⟩ = some (.pointer pl) ∧ W'.cell? ⟨a, 7, none⟩ = some (.pointer pr) ∧ W'.cell? ⟨a, 10, none⟩ = some (.int .i64 plus) ∧ W'.cell? ⟨w.heap.size + 1, 0, none⟩ = some (.slice A rs.length c) ∧ W'.cell? ⟨w.heap.size + 1, 1, none⟩ = some (.int .i64 (hid + plus)) ∧ W3.heap.size ≤ W'.heap.size)
      (first
        | (go_keep; done)
        | (go_split_ands; refine ⟨?_, ?_, ?_, ?_, ?_, ?_⟩ <;> first | assumption | exact cell_set2 ea (by assumption) | exact cell_set2 (Nat.ne_of_lt (Nat.lt_succ_self _)) (by assumption) | exact size_set2 (by assumption) | exact bcell hb5 (by assumption) | exact bcell hb4 (by assumption) | exact Nat.le_trans (by assumption) hb5.size | exact hb4.size))
      (first
        | (go_at_call 75; clear tok1; refine (lift_calls (K := K) (t := l) ?_ g8 ⟨hp1, hp2⟩).mono ?_; exact Rep.drewIff.2 e1; rintro e w4 ⟨v1, rfl, hr4, hb4⟩)
        | (go_at_call 75; refine (lift_calls (K := K) (t := r) ?_ g9 ⟨hp1, hp2⟩).mono ?_; exact Rep.below (Rep.drewIff.2 e2) hb4; rintro e w5 ⟨v2, rfl, hr5, hb5⟩; have hlx : w.heap.size < W3.drew.heap.size := (by simp; omega); have s0 := bcell hb5 (bcell hb4 (show W3.drew.cell? ⟨w.heap.size, 0, none⟩ = _ from p0)); have s1 := bcell hb5 (bcell hb4 (show W3.drew.cell? ⟨w.heap.size, 1, none⟩ = _ from p1)); have sf := bfroz hb5 (bfroz hb4 (show W3.drew.frozen? ⟨w.heap.size, 0, none⟩ = false from pf) hlx) (Nat.lt_of_lt_of_le hlx hb4.size); have sf1 := bfroz hb5 (bfroz hb4 (show W3.drew.frozen? ⟨w.heap.size, 1, none⟩ = false from pf1) hlx) (Nat.lt_of_lt_of_le hlx hb4.size)))
    go_wp2
    have hz4 := hb4.size
    have hz5 := hb5.size
    rw [World.size_drew, z3] at hz4
    refine bodyPost_ret (v := .tuple #[v1, .agg #[.slice A rs.length c, .int .i64 (hid + plus)], v2]) ?res rfl ⟨v1, v2, A, c, rfl, ?r1, ?r2, ?r3, hA, hc, ?r4⟩
    case res =>
      have hss := of_set2 (u1 := .slice A rs.length c) (u2 := .int .i64 (hid + plus)) s0 s1
      simp [results, Tryd.results60, go_sem, hss.1, hss.2]
    case r1 => exact (Rep.set2 (hr4.below hb5) (fun h => by rcases h with h | h; (have := hK _ h; omega); (simp at h; omega))).mono (KU.sub (by simp; omega))
    case r2 => exact (Rep.set2 hr5 (fun h => by rcases h with h | h; (have := hK _ h; omega); omega)).mono (KU.sub (by omega))
    case r3 => exact RunesAt.set2 (Kd.C_below (Kd.C_below (Kd.C_drew er) hb4) hb5) (fun ad e => by have := hK _ (hA ad e); omega)
    case r4 => exact below_set2 (((hb3.drew).trans (hb4.mono (by simp; omega))).trans (hb5.mono (by omega))) (Nat.le_refl _)
end Go.Proofs.YteeigokkafcaaaaDoorRope
end
section
namespace Go.Proofs.YteeigokkafcaaaaDoorRope
open Go.RowKit Go.Proofs.YteeigokkafcaaaaDoorW.PrintWords Go.Proofs.YteeigokkafcaaaaDoorW.PrintMore
set_option linter.unusedSimpArgs false
set_option linter.unusedVariables false
theorem with_raw (s t : Sm) (h k : Int) (hs : SmFit s) (ht : SmFit t) (w : World) : Calls Tryd.prog 126 #[.agg #[.int .i64 s.tot, .int .i64 s.lv, .int .i64 h, .int .i64 s.mi, .int .i64 s.am, .int .i64 s.ma], .agg #[.int .i64 t.tot, .int .i64 t.lv, .int .i64 k, .int .i64 t.mi, .int .i64 t.am, .int .i64 t.ma]] w fun e w' => ∃ x, e = .returned (.agg #[.int .i64 (s.with t).tot, .int .i64 (s.with t).lv, .int .i64 x, .int .i64 (s.with t).mi, .int .i64 (s.with t).am, .int .i64 (s.with t).ma]) ∧ Below w.heap.size w w' :=
  (with_calls s t h k hs ht w).mono fun e w' hh => ⟨_, hh⟩
theorem cells6 {w W : World} {g : Nat} {a b c d e f : Value} (h : W.heap[g]? = some (.cells #[a, b, c, d, e, f] 110 (0, 0))) : W.cell? ⟨g, 0, none⟩ = some a ∧ W.cell? ⟨g, 1, none⟩ = some b ∧ W.cell? ⟨g, 2, none⟩ = some c ∧ W.cell? ⟨g, 3, none⟩ = some d ∧ W.cell? ⟨g, 4, none⟩ = some e ∧ W.cell? ⟨g, 5, none⟩ = some f := by
  simp [World.cell?, h]
theorem froz6 {W : World} {g : Nat} {a b c d e f : Value} (h : W.heap[g]? = some (.cells #[a, b, c, d, e, f] 110 (0, 0))) : W.frozen? ⟨g, 0, none⟩ = false ∧ W.frozen? ⟨g, 1, none⟩ = false ∧ W.frozen? ⟨g, 2, none⟩ = false ∧ W.frozen? ⟨g, 3, none⟩ = false ∧ W.frozen? ⟨g, 4, none⟩ = false ∧ W.frozen? ⟨g, 5, none⟩ = false := by
  simp [World.frozen?, h]
def KnotS (g0 g1 g2 : Nat) (s t : Sm) (h k : Int) (A : Option Addr) (n c : Nat) (hid : Int) (W' : World) : Prop := W'.cell? ⟨g1, 0, none⟩ = some (.int .i64 s.tot) ∧ W'.cell? ⟨g1, 1, none⟩ = some (.int .i64 s.lv) ∧ W'.cell? ⟨g1, 2, none⟩ = some (.int .i64 h) ∧ W'.cell? ⟨g1, 3, none⟩ = some (.int .i64 s.mi) ∧ W'.cell? ⟨g1, 4, none⟩ = some (.int .i64 s.am) ∧ W'.cell? ⟨g1, 5, none⟩ = some (.int .i64 s.ma) ∧
      W'.cell? ⟨g2, 0, none⟩ = some (.int .i64 t.tot) ∧ W'.cell? ⟨g2, 1, none⟩ = some (.int .i64 t.lv) ∧ W'.cell? ⟨g2, 2, none⟩ = some (.int .i64 k) ∧ W'.cell? ⟨g2, 3, none⟩ = some (.int .i64 t.mi) ∧ W'.cell? ⟨g2, 4, none⟩ = some (.int .i64 t.am) ∧ W'.cell? ⟨g2, 5, none⟩ = some (.int .i64 t.ma) ∧
      W'.cell? ⟨g0, 0, none⟩ = some (.slice A n c) ∧ W'.cell? ⟨g0, 1, none⟩ = some (.int .i64 hid)
theorem KnotS.keep {g0 g1 g2 : Nat} {s t : Sm} {h k : Int} {A : Option Addr} {m c : Nat} {hid : Int} {W W' : World} {n : Nat} (hb : Below n W W') (l0 : g0 < n) (l1 : g1 < n) (l2 : g2 < n) (hS : KnotS g0 g1 g2 s t h k A m c hid W) : KnotS g0 g1 g2 s t h k A m c hid W' := by
  have f : ∀ b o, b < n → W'.cell? ⟨b, o, none⟩ = W.cell? ⟨b, o, none⟩ := fun b o h => hb.cell (p := ⟨b, o, none⟩) h
  unfold KnotS at *
  rw [f g0 0 l0, f g0 1 l0, f g1 0 l1, f g1 1 l1, f g1 2 l1, f g1 3 l1, f g1 4 l1, f g1 5 l1, f g2 0 l2, f g2 1 l2, f g2 2 l2, f g2 3 l2, f g2 4 l2, f g2 5 l2]
  exact hS
theorem new_p {W w1 : World} {o : Obj} (hb : Below (W.alloc o).heap.size (W.alloc o) w1) : w1.heap[W.heap.size]? = some o := (hb.block W.heap.size (by simp)).trans (heap_new _ _)
theorem new_d {W w1 : World} {o : Obj} (hb : Below (W.alloc o).drew.heap.size (W.alloc o).drew w1) : w1.heap[W.heap.size]? = some o := (hb.block W.heap.size (by simp)).trans (heap_new _ _)
theorem new_lt {W : World} {g : Nat} {o : Obj} (h : W.heap[g]? = some o) : g < W.heap.size := (Array.getElem?_eq_some_iff.1 h).1
def KnotT (g0 g1 g2 : Nat) (s t : Sm) (h k : Int) (A : Option Addr) (n c : Nat) (hid : Int) (W3 : World) (v9 : Value) (wx : World) : Prop := ∃ gN x5, v9 = .pointer (some ⟨gN, 0, none⟩) ∧ W3.heap.size ≤ gN ∧ wx.heap[gN]? = some (.cells #[.int .i64 ((s.with ⟨n, 1, hid, n, hid⟩).with t).tot, .int .i64 ((s.with ⟨n, 1, hid, n, hid⟩).with t).lv, .int .i64 x5, .int .i64 ((s.with ⟨n, 1, hid, n, hid⟩).with t).mi, .int .i64 ((s.with ⟨n, 1, hid, n, hid⟩).with t).am, .int .i64 ((s.with ⟨n, 1, hid, n, hid⟩).with t).ma] 110 (0, 0)) ∧ Below W3.heap.size W3 wx
theorem set6 {W : World} {g : Nat} {a b c d e f a' b' c' d' e' f' : Value} (h : W.heap[g]? = some (.cells #[a, b, c, d, e, f] 110 (0, 0))) : ((((((W.setCell ⟨g, 0, none⟩ a').setCell ⟨g, 1, none⟩ b').setCell ⟨g, 2, none⟩ c').setCell ⟨g, 3, none⟩ d').setCell ⟨g, 4, none⟩ e').setCell ⟨g, 5, none⟩ f').heap[g]? = some (.cells #[a', b', c', d', e', f'] 110 (0, 0)) := by
  simp [World.setCell, Array.getElem?_modify, h]
theorem below_set6 {B : Nat} {W W' : World} {g : Nat} {a b c d e f : Value} (h : Below B W W') (hg : B ≤ g) : Below B W ((((((W'.setCell ⟨g, 0, none⟩ a).setCell ⟨g, 1, none⟩ b).setCell ⟨g, 2, none⟩ c).setCell ⟨g, 3, none⟩ d).setCell ⟨g, 4, none⟩ e).setCell ⟨g, 5, none⟩ f) :=
  (((((h.setCell (p := ⟨g, 0, none⟩) hg a).setCell (p := ⟨g, 1, none⟩) hg b).setCell (p := ⟨g, 2, none⟩) hg c).setCell (p := ⟨g, 3, none⟩) hg d).setCell (p := ⟨g, 4, none⟩) hg e).setCell (p := ⟨g, 5, none⟩) hg f
theorem heap_new' {w : World} {o : Obj} {n : Nat} (h : n = w.heap.size) : (w.alloc o).heap[n]? = some o := by subst h; exact heap_new _ _
theorem cells2 {W : World} {g : Nat} {a b : Value} (h : W.heap[g]? = some (.cells #[a, b] 113 (0, 0))) : W.cell? ⟨g, 0, none⟩ = some a ∧ W.cell? ⟨g, 1, none⟩ = some b := by
  simp [World.cell?, h]
set_option maxRecDepth 100000 in
set_option maxHeartbeats 4000000 in
theorem knot_raw {w : World} (pl pr A : Option Addr) (n c : Nat) (hid h k : Int) (s t : Sm) (hs : SmFit s) (ht : SmFit t) (ho : SmFit ⟨n, 1, hid, n, hid⟩) (hso : SmFit (s.with ⟨n, 1, hid, n, hid⟩)) (hh : 0 ≤ h ∧ h ≤ 1099511627776) (hk : 0 ≤ k ∧ k ≤ 1099511627776)
    (hal : ∀ W, Below w.heap.size w W → Calls Tryd.prog 58 #[.pointer pl] W fun e w' => e = .returned (.agg #[.int .i64 s.tot, .int .i64 s.lv, .int .i64 h, .int .i64 s.mi, .int .i64 s.am, .int .i64 s.ma]) ∧ Below W.heap.size W w')
    (har : ∀ W, Below w.heap.size w W → Calls Tryd.prog 58 #[.pointer pr] W fun e w' => e = .returned (.agg #[.int .i64 t.tot, .int .i64 t.lv, .int .i64 k, .int .i64 t.mi, .int .i64 t.am, .int .i64 t.ma]) ∧ Below W.heap.size W w') :
    Calls Tryd.prog 98 #[.pointer pl, .agg #[.slice A n c, .int .i64 hid], .pointer pr] w fun e w' => ∃ g, e = .returned (.pointer (some ⟨g, 0, none⟩)) ∧ w.heap.size ≤ g ∧ w'.heap[g]? = some (.cells #[.int .i64 ((s.with ⟨n, 1, hid, n, hid⟩).with t).tot, .int .i64 ((s.with ⟨n, 1, hid, n, hid⟩).with t).lv, .int .i64 (1 + max h k), .int .i64 ((s.with ⟨n, 1, hid, n, hid⟩).with t).mi, .int .i64 ((s.with ⟨n, 1, hid, n, hid⟩).with t).am, .int .i64 ((s.with ⟨n, 1, hid, n, hid⟩).with t).ma, .pointer pl, .pointer pr, .slice A n c, .int .i64 hid, .int .i64 0] 153 (0, 0)) ∧ Below w.heap.size w w' := by
  have tok1 : True := trivial
  go_enter Tryd.func98, Tryd.ntmps98
  go_wp2_with (first
    | (go_at_call 58; clear tok1; refine (hal _ ((Below.refl _ w).alloc (Nat.le_refl _) _)).mono ?_; rintro e w1 ⟨rfl, hb1⟩)
    | (go_at_call 58; refine (har _ (((Below.refl _ w).alloc (Nat.le_refl _) _).trans (hb1.mono (by simp)))).mono ?_; rintro e w2 ⟨rfl, hb2⟩))
  have r0 : w2.cell? ⟨w.heap.size, 0, none⟩ = some (.slice A n c) := bcell hb2 (bcell hb1 (by simp))
  have r1 : w2.cell? ⟨w.heap.size, 1, none⟩ = some (.int .i64 hid) := bcell hb2 (bcell hb1 (by simp))
  have hbw : Below w.heap.size w w2 := ((Below.refl _ w).alloc (Nat.le_refl _) _).trans ((hb1.mono (by simp)).trans (hb2.mono (by have := hb1.size; simp at this; omega)))
  have z2 : w.heap.size < w2.heap.size := by have := hb1.size; have := hb2.size; simp at *; omega
  obtain ⟨W3, hW3⟩ : ∃ W3, (w2.alloc (.cells #[.int .i64 s.tot, .int .i64 s.lv, .int .i64 h, .int .i64 s.mi, .int .i64 s.am, .int .i64 s.ma] 110)).alloc (.cells #[.int .i64 t.tot, .int .i64 t.lv, .int .i64 k, .int .i64 t.mi, .int .i64 t.am, .int .i64 t.ma] 110) = W3 := ⟨_, rfl⟩
  have ha : W3.heap[w2.heap.size]? = some (.cells #[.int .i64 s.tot, .int .i64 s.lv, .int .i64 h, .int .i64 s.mi, .int .i64 s.am, .int .i64 s.ma] 110 (0, 0)) := by
    rw [← hW3, Below.heap_alloc _ _ _ (by simp)]; exact heap_new _ _
  have hb : W3.heap[w2.heap.size + 1]? = some (.cells #[.int .i64 t.tot, .int .i64 t.lv, .int .i64 k, .int .i64 t.mi, .int .i64 t.am, .int .i64 t.ma] 110 (0, 0)) := by
    have := heap_new (w2.alloc (.cells #[.int .i64 s.tot, .int .i64 s.lv, .int .i64 h, .int .i64 s.mi, .int .i64 s.am, .int .i64 s.ma] 110)) (.cells #[.int .i64 t.tot, .int .i64 t.lv, .int .i64 k, .int .i64 t.mi, .int .i64 t.am, .int .i64 t.ma] 110)
    rw [hW3, World.size_alloc] at this
    exact this
  have hb3 : Below w2.heap.size w2 W3 := by rw [← hW3]; exact ((Below.refl _ w2).alloc (Nat.le_refl _) _).alloc (by simp) _
  have z3 : W3.heap.size = w2.heap.size + 1 + 1 := by rw [← hW3]; simp
  have p0 := bcell hb3 r0
  have p1 := bcell hb3 r1
  rw [hW3]
  clear hW3 r0 r1 hal har
  have hp : W3.heap[w.heap.size]? = some (.cells #[.slice A n c, .int .i64 hid] 113 (0, 0)) := by
    refine (hb3.block _ z2).trans ((hb2.block _ ?_).trans ((hb1.block _ (by simp)).trans (heap_new _ _)))
    have := hb1.size; simp at this; omega
  clear p0 p1
  obtain ⟨g1, hg1⟩ : ∃ g1, g1 = w2.heap.size := ⟨_, rfl⟩
  obtain ⟨g2, hg2⟩ : ∃ g2, g2 = w2.heap.size + 1 := ⟨_, rfl⟩
  obtain ⟨g0, hg0⟩ : ∃ g0, g0 = w.heap.size := ⟨_, rfl⟩
  rw [← hg1] at ha
  rw [← hg2] at hb
  rw [← hg0] at hp
  rw [← hg2, ← hg1, ← hg0]
  have l0 : g0 < W3.heap.size := by omega
  have l1 : g1 < W3.heap.size := by omega
  have l2 : g2 < W3.heap.size := by omega
  have hbw3 := hbw.trans (hb3.mono (by omega))
  have zw : w.heap.size ≤ W3.heap.size := by omega
  clear hg1 hg2 hg0 z3 hb3 hbw z2 hb1 hb2
  have hA := ha
  have hB := hb
  have hP := hp
  obtain ⟨a0, a1, a2, a3, a4, a5⟩ := cells6 (w := w) ha
  obtain ⟨b0, b1, b2, b3, b4, b5⟩ := cells6 (w := w) hb
  obtain ⟨p0, p1⟩ := cells2 hp
  have hS3 : KnotS g0 g1 g2 s t h k A n c hid W3 := ⟨a0, a1, a2, a3, a4, a5, b0, b1, b2, b3, b4, b5, p0, p1⟩
  have HS := Lib.hid hS3
  have HA := Lib.hid hA
  have HB := Lib.hid hB
  have HP := Lib.hid hP
  clear hA hB hP ha hb hp hS3
  have hso2 : True := trivial
  go_cut [9] from 14 to 28 (fun v9 wx => KnotT g0 g1 g2 s t h k A n c hid W3 v9 wx)
  case first =>
    have tok2 : True := trivial
    go_region_held3 (fun W' => W'.cell? ⟨g1, 0, none⟩ = some (.int .i64 s.tot) ∧ W'.cell? ⟨g1, 1, none⟩ = some (.int .i64 s.lv) ∧ W'.cell? ⟨g1, 2, none⟩ = some (.int .i64 h) ∧ W'.cell? ⟨g1, 3, none⟩ = some (.int .i64 s.mi) ∧ W'.cell? ⟨g1, 4, none⟩ = some (.int .i64 s.am) ∧ W'.cell? ⟨g1, 5, none⟩ = some (.int .i64 s.ma) ∧
        W'.cell? ⟨g2, 0, none⟩ = some (.int .i64 t.tot) ∧ W'.cell? ⟨g2, 1, none⟩ = some (.int .i64 t.lv) ∧ W'.cell? ⟨g2, 2, none⟩ = some (.int .i64 k) ∧ W'.cell? ⟨g2, 3, none⟩ = some (.int .i64 t.mi) ∧ W'.cell? ⟨g2, 4, none⟩ = some (.int .i64 t.am) ∧ W'.cell? ⟨g2, 5, none⟩ = some (.int .i64 t.ma) ∧
        W'.cell? ⟨g0, 0, none⟩ = some (.slice A n c) ∧ W'.cell? ⟨g0, 1, none⟩ = some (.int .i64 hid))
      (first
        | (refine KnotS.keep (n := W3.heap.size) ?_ l0 l1 l2 HS.out; (repeat first | with_reducible exact Below.refl _ _ | with_reducible assumption | with_reducible refine Below.drew ?_ | with_reducible refine Below.alloc ?_ (by first | exact Nat.le_refl _ | assumption | (simp; omega)) _ | with_reducible refine Below.setCell ?_ (by first | exact Nat.le_refl _ | assumption | (simp; omega)) _)))
      (first
        | (go_at_call 126; clear tok2; refine (with_raw s ⟨n, 1, hid, n, hid⟩ h 0 hs ho _).mono ?_; rintro e w4 ⟨x4, rfl, hb4⟩; have hc4 : Below W3.heap.size W3 w4 := (by refine Below.trans ?_ (hb4.mono ?_); ((repeat first | with_reducible exact Below.refl _ _ | with_reducible assumption | with_reducible refine Below.drew ?_ | with_reducible refine Below.alloc ?_ (by simp; try omega) _ | with_reducible refine Below.setCell ?_ (by simp; try omega) _)); (simp; done)); have zc4 := hc4.size; try (have hN : w4.heap[W3.heap.size]? = some (.cells #[.int .i64 0, .int .i64 0, .int .i64 0, .int .i64 0, .int .i64 0, .int .i64 0] 110 (0, 0)) := new_d hb4; have HN := Lib.hid hN; have lN := new_lt hN; clear hN))
        | (go_at_call 126; refine (with_raw (s.with ⟨n, 1, hid, n, hid⟩) t x4 k hso ht _).mono ?_; rintro e w5 ⟨x5, rfl, hb5⟩; have hd5 : Below w4.heap.size w4 w5 := (by refine Below.trans ?_ (hb5.mono ?_); ((repeat first | with_reducible exact Below.refl _ _ | with_reducible assumption | with_reducible refine Below.drew ?_ | with_reducible refine Below.alloc ?_ (by simp; try omega) _ | with_reducible refine Below.setCell ?_ (by simp; try omega) _)); (simp; done)); have hc5 : Below W3.heap.size W3 w5 := hc4.trans (hd5.mono zc4); have zc5 := hc5.size; (try (have hM := new_p hb5; obtain ⟨o0, o1, o2, o3, o4, o5⟩ := cells6 (w := w) hM; obtain ⟨i0, i1, i2, i3, i4, i5⟩ := froz6 hM; have HM := Lib.hid hM; clear hM)); (try (have hM := (hd5.block _ lN).trans HN.out; obtain ⟨o0, o1, o2, o3, o4, o5⟩ := cells6 (w := w) hM; obtain ⟨i0, i1, i2, i3, i4, i5⟩ := froz6 hM; have HM := Lib.hid hM; clear hM))))
    all_goals
      go_wp2_with fail
      go_meet
      first
        | exact ⟨_, _, rfl, zc5, heap_new _ _, hc5.alloc zc5 _⟩
        | exact ⟨_, _, rfl, zc4, set6 HM.out, below_set6 hc5 zc4⟩
        | exact ⟨_, _, rfl, Nat.le_refl _, set6 HM.out, below_set6 hc5 (Nat.le_refl _)⟩
  case rest =>
    obtain ⟨gN, x5, rfl, lN, hN, hcN⟩ := hcut
    clear HS a0 a1 a2 a3 a4 a5 b0 b1 b2 b3 b4 b5 p0 p1
    obtain ⟨o0, o1, o2, o3, o4, o5⟩ := cells6 (w := w) hN
    obtain ⟨i0, i1, i2, i3, i4, i5⟩ := froz6 hN
    obtain ⟨a0, a1, a2, a3, a4, a5⟩ := cells6 (w := w) ((hcN.block g1 l1).trans HA.out)
    obtain ⟨b0, b1, b2, b3, b4, b5⟩ := cells6 (w := w) ((hcN.block g2 l2).trans HB.out)
    obtain ⟨p0, p1⟩ := cells2 ((hcN.block g0 l0).trans HP.out)
    have jN := new_lt hN
    have j0 : g0 < wc.heap.size := Nat.lt_of_lt_of_le l0 hcN.size
    have j1 : g1 < wc.heap.size := Nat.lt_of_lt_of_le l1 hcN.size
    have j2 : g2 < wc.heap.size := Nat.lt_of_lt_of_le l2 hcN.size
    have e0 : gN ≠ g0 := by omega
    obtain ⟨hh0, hh1⟩ := hh
    obtain ⟨hk0, hk1⟩ := hk
    have HN := Lib.hid hN
    clear hN
    rcases Int.lt_or_le h k with x | x
    · have mx : max h k = k := by omega
      go_wp2
      go_ret
      rw [mx]
      exact ⟨wc.heap.size, rfl, by have := hcN.size; omega, heap_new' (by simp [World.setCell]), ((hbw3.trans (hcN.mono zw)).setCell (p := ⟨gN, 2, none⟩) (by show w.heap.size ≤ gN; omega) _).alloc (by simp [World.setCell]; have := hcN.size; omega) _⟩
    · have mx : max h k = h := by omega
      go_wp2
      go_ret
      rw [mx]
      exact ⟨wc.heap.size, rfl, by have := hcN.size; omega, heap_new' (by simp [World.setCell]), ((hbw3.trans (hcN.mono zw)).setCell (p := ⟨gN, 2, none⟩) (by show w.heap.size ≤ gN; omega) _).alloc (by simp [World.setCell]; have := hcN.size; omega) _⟩
theorem Tree.size_le {t : Tree} : ∀ {A : Int}, t.Good A → t.size ≤ t.cells.length := by
  induction t with
  | nil => intro A _; exact Nat.le_refl _
  | node l rs hid r plus ihl ihr =>
    rintro A ⟨h1, _, _, _, _, _, _, h8, h9⟩
    have e1 := ihl h8
    have e2 := ihr h9
    have hr : rs.length ≠ 0 := fun e => h1 (List.eq_nil_of_length_eq_zero e)
    simp only [Tree.size, Tree.cells, List.length_map, List.length_append]
    omega
theorem Tree.ht_le (t : Tree) : t.ht ≤ t.size := by
  induction t with
  | nil => exact Nat.le_refl _
  | node l rs hid r plus ihl ihr => simp only [Tree.ht, Tree.size]; omega
theorem fit_of {s : Sm} {cs : List (Int × Int)} (h : SumsOf s cs) (hc : InHid cs 0) (hl : cs.length ≤ 1099511627776) (hv : 0 ≤ s.lv ∧ s.lv ≤ 1099511627776) : SmFit s := by
  have h1 := h.tot
  have hf := List.length_filter_le (fun c : Int × Int => c.2 == s.mi) cs
  have h2 := h.at_
  by_cases c : cs = []
  · have := h.none_ c
    exact ⟨by omega, hv, by omega, by omega, by omega⟩
  · obtain ⟨⟨x, hx, ex⟩, ⟨y, hy, ey⟩⟩ := h.some_ c
    have a1 := hc x hx
    have a2 := hc y hy
    exact ⟨by omega, hv, by omega, by omega, by omega⟩
theorem Tree.Good.smfit {t : Tree} (h : t.Good 0) (hl : t.cells.length ≤ 1099511627776) : SmFit t.sm := by
  have h1 := h.lv
  have h2 := Tree.size_le h
  exact fit_of h.sums h.cells hl ⟨by omega, by omega⟩
theorem one_hid {rs : List Int} {hid : Int} (h : 0 ≤ hid ∧ hid ≤ 1048577) : InHid (rs.map (fun c => (c, hid))) 0 := by
  intro c hc
  obtain ⟨d, _, rfl⟩ := List.mem_map.1 hc
  exact ⟨by show 0 ≤ hid + 0; omega, by show hid + 0 ≤ 1048577; omega⟩
theorem InHid.append {a b : List (Int × Int)} {A : Int} (h : InHid a A) (k : InHid b A) : InHid (a ++ b) A := fun c hc => (List.mem_append.1 hc).elim (h c) (k c)
theorem knot_calls {K : Nat → Prop} {w : World} {l r : Tree} {vl vr : Value} {rs : List Int} {A : Option Addr} {c : Nat} {hid : Int} (hl : Rep K w l vl) (hr : Rep K w r vr) (gl : l.Good 0) (gr : r.Good 0) (hA : RunesAt w A rs) (hK : ∀ ad, A = some ad → K ad.block) (hc : rs.length ≤ c) (hne : rs ≠ []) (hh : 0 ≤ hid ∧ hid ≤ 1048577) (hsz : l.cells.length + rs.length + r.cells.length ≤ 1073741824) :
    Calls Tryd.prog 98 #[vl, .agg #[.slice A rs.length c, .int .i64 hid], vr] w fun e w' => ∃ v, e = .returned v ∧ Rep (KU K w.heap.size) w' (.node l rs hid r 0) v ∧ Below w.heap.size w w' := by
  obtain ⟨pl, rfl⟩ := hl.ptr
  obtain ⟨pr, rfl⟩ := hr.ptr
  have so := SumsOf.one hne hid
  have hfo : SmFit (Sm.one rs hid) := fit_of so (one_hid hh) (by rw [List.length_map]; omega) ⟨by simp [Sm.one], by simp [Sm.one]⟩
  have sso := gl.sums.with so
  have hv1 := gl.lv
  have hv2 := Tree.size_le gl
  have hlv : (l.sm.with (Sm.one rs hid)).lv = l.sm.lv + 1 ∨ (l.sm.with (Sm.one rs hid)).lv = 1 := by
    have hr0 : rs.length ≠ 0 := fun e => hne (List.eq_nil_of_length_eq_zero e)
    unfold Sm.with
    rw [if_neg (by simp [Sm.one]; omega)]
    by_cases c0 : l.sm.tot = 0
    · rw [if_pos c0]; exact .inr rfl
    · rw [if_neg c0]; exact .inl rfl
  have hfso : SmFit (l.sm.with (Sm.one rs hid)) := fit_of sso (gl.cells.append (one_hid hh)) (by rw [List.length_append, List.length_map]; omega) ⟨by omega, by omega⟩
  have h1 := Tree.ht_le l
  have h2 := Tree.ht_le r
  have h3 := Tree.size_le gr
  refine (knot_raw pl pr A rs.length c hid l.ht r.ht l.sm r.sm (gl.smfit (by omega)) (gr.smfit (by omega)) hfo hfso ⟨by omega, by omega⟩ ⟨by omega, by omega⟩ (fun W hb => all_calls (hl.below hb)) (fun W hb => all_calls (hr.below hb))).mono ?_
  rintro e w' ⟨g, rfl, hg, hh', hb⟩
  refine ⟨_, rfl, ⟨g, .pointer pl, .pointer pr, A, c, rfl, ?_, .inr hg, hc, Kd.C_below hA hb, fun ad e => .inl (hK ad e), (hl.below hb).mono KU.of, (hr.below hb).mono KU.of⟩, hb⟩
  rw [hh']
  have e1 : (Tree.node l rs hid r 0).sm = (l.sm.with (Sm.one rs hid)).with r.sm := by simp [Tree.sm, Sm.lifted]
  simp only [nodeCells, e1, Tree.ht, Sm.one]
  rw [show ((1 + max l.ht r.ht : Nat) : Int) = 1 + max (l.ht : Int) (r.ht : Int) from by omega]
end Go.Proofs.YteeigokkafcaaaaDoorRope
end
section
namespace Go.Proofs.YteeigokkafcaaaaDoorRope
open Go.RowKit Go.Proofs.YteeigokkafcaaaaDoorW.PrintWords Go.Proofs.YteeigokkafcaaaaDoorW.PrintMore
set_option linter.unusedSimpArgs false
set_option linter.unusedVariables false
theorem run_field2 (W : World) (x0 x1 x2 x3 x4 x5 : Int) : (Instr.field 110 (.agg #[.int .i64 x0, .int .i64 x1, .int .i64 x2, .int .i64 x3, .int .i64 x4, .int .i64 x5]) 2).run Tryd.prog W = .ok (.int .i64 x2) W := by
  kernel_rfl
theorem run_field0 (W : World) (x0 x1 x2 x3 x4 x5 : Int) : (Instr.field 110 (.agg #[.int .i64 x0, .int .i64 x1, .int .i64 x2, .int .i64 x3, .int .i64 x4, .int .i64 x5]) 0).run Tryd.prog W = .ok (.int .i64 x0) W := by
  kernel_rfl
structure Pc where
  rs : List Int
  hid : Int
  A : Option Addr
  c : Nat
def Pc.cells (p : Pc) : List (Int × Int) := p.rs.map (fun c => (c, p.hid))
structure PieceIn (K : Nat → Prop) (W : World) (p : Pc) : Prop where
  ra : RunesAt W p.A p.rs
  k : ∀ ad, p.A = some ad → K ad.block
  cap : p.rs.length ≤ p.c
  ne : p.rs ≠ []
  h : 0 ≤ p.hid ∧ p.hid ≤ 1048577
structure TreeIn (K : Nat → Prop) (W : World) (t : Tree) (v : Value) : Prop where
  rep : Rep K W t v
  good : t.Good 0
structure Env (K : Nat → Prop) (w0 W : World) (ts : List (Tree × Value)) (ps : List Pc) (bs : List (Nat × Obj)) : Prop where
  t : ∀ x ∈ ts, TreeIn K W x.1 x.2
  p : ∀ x ∈ ps, PieceIn K W x
  b : ∀ x ∈ bs, W.heap[x.1]? = some x.2
  bel : Below w0.heap.size w0 W
  up : ∀ k, W.heap.size ≤ k → K k
section
variable {K : Nat → Prop} {w0 W W' : World} {ts ts' : List (Tree × Value)} {ps ps' : List Pc} {bs bs' : List (Nat × Obj)}
theorem PieceIn.below {p : Pc} (h : PieceIn K W p) (hb : Below W.heap.size W W') : PieceIn K W' p := ⟨Kd.C_below h.ra hb, h.k, h.cap, h.ne, h.h⟩
theorem TreeIn.below {t : Tree} {v : Value} (h : TreeIn K W t v) (hb : Below W.heap.size W W') : TreeIn K W' t v := ⟨h.rep.below hb, h.good⟩
theorem Env.below (h : Env K w0 W ts ps bs) (hb : Below W.heap.size W W') : Env K w0 W' ts ps bs :=
  ⟨fun x hx => (h.t x hx).below hb, fun x hx => (h.p x hx).below hb, fun x hx => (hb.block _ (new_lt (h.b x hx))).trans (h.b x hx), h.bel.trans (hb.mono h.bel.size), fun k hk => h.up k (Nat.le_trans hb.size hk)⟩
theorem Env.drew (h : Env K w0 W ts ps bs) : Env K w0 W.drew ts ps bs := h.below (Below.refl _ W).drew
theorem Env.box (h : Env K w0 W ts ps bs) (o : Obj) : Env K w0 (W.alloc o) ts ps ((W.heap.size, o) :: bs) := by
  have h' := h.below ((Below.refl _ W).alloc (Nat.le_refl _) o)
  refine ⟨h'.t, h'.p, fun x hx => ?_, h'.bel, h'.up⟩
  rcases List.mem_cons.1 hx with rfl | hx
  · exact heap_new W o
  · exact h'.b x hx
theorem Env.idle (h : Env K w0 W ts ps bs) (o : Obj) : Env K w0 (W.alloc o) ts ps bs := h.below ((Below.refl _ W).alloc (Nat.le_refl _) o)
theorem Env.addT (h : Env K w0 W ts ps bs) {t : Tree} {v : Value} (ht : TreeIn K W t v) : Env K w0 W ((t, v) :: ts) ps bs := by
  refine ⟨fun x hx => ?_, h.p, h.b, h.bel, h.up⟩
  rcases List.mem_cons.1 hx with rfl | hx
  · exact ht
  · exact h.t x hx
theorem Env.addP (h : Env K w0 W ts ps bs) {p : Pc} (hp : PieceIn K W p) : Env K w0 W ts (p :: ps) bs := by
  refine ⟨h.t, fun x hx => ?_, h.b, h.bel, h.up⟩
  rcases List.mem_cons.1 hx with rfl | hx
  · exact hp
  · exact h.p x hx
theorem Env.sub (h : Env K w0 W ts ps bs) (h1 : ∀ x ∈ ts', x ∈ ts) (h2 : ∀ x ∈ ps', x ∈ ps) (h3 : ∀ x ∈ bs', x ∈ bs) : Env K w0 W ts' ps' bs' :=
  ⟨fun x hx => h.t x (h1 x hx), fun x hx => h.p x (h2 x hx), fun x hx => h.b x (h3 x hx), h.bel, h.up⟩
theorem Env.nilT (h : Env K w0 W ts ps bs) : Env K w0 W ((.nil, .pointer none) :: ts) ps bs := h.addT ⟨rfl, trivial⟩
abbrev Pc.obj (p : Pc) : Obj := .cells #[.slice p.A p.rs.length p.c, .int .i64 p.hid] 113 (0, 0)
theorem Env.cell0 (h : Env K w0 W ts ps bs) {g : Nat} {p : Pc} (hm : (g, p.obj) ∈ bs) : W.cell? ⟨g, 0, none⟩ = some (.slice p.A p.rs.length p.c) := (cells2 (h.b _ hm)).1
theorem Env.cell1 (h : Env K w0 W ts ps bs) {g : Nat} {p : Pc} (hm : (g, p.obj) ∈ bs) : W.cell? ⟨g, 1, none⟩ = some (.int .i64 p.hid) := (cells2 (h.b _ hm)).2
theorem Env.lt (h : Env K w0 W ts ps bs) {g : Nat} {o : Obj} (hm : (g, o) ∈ bs) : g < W.heap.size := new_lt (h.b _ hm)
end
theorem Rep.bound {K : Nat → Prop} {W : World} {t : Tree} : ∀ {v : Value} {A : Int}, Rep K W t v → t.Good A → Rep (fun k => K k ∧ k < W.heap.size) W t v := by
  induction t with
  | nil => intro v A h _; exact h
  | node l rs hid r plus ihl ihr =>
    rintro v B ⟨a, vl, vr, A, c, rfl, hh, ha, hc, hr, hA, h1, h2⟩ ⟨g1, _, _, _, _, _, _, g8, g9⟩
    refine ⟨a, vl, vr, A, c, rfl, hh, ⟨ha, new_lt hh⟩, hc, hr, fun ad e => ⟨hA ad e, ?_⟩, ihl h1 g8, ihr h2 g9⟩
    have hz : 0 < rs.length := by
      cases rs with
      | nil => exact absurd rfl g1
      | cons x l => simp
    obtain ⟨ad', e', hcell⟩ := hr.2.2 hz
    obtain ⟨x, hx⟩ : ∃ x, rs[0]? = some x := ⟨rs[0], List.getElem?_eq_getElem hz⟩
    obtain ⟨cs, hl, hk, hq⟩ := hcell 0 x hx
    have hk' : cs = [.int .i32 x] := hk
    have h0 := hq 0 (.int .i32 x) (by rw [hk']; rfl)
    have := World.block_lt_of_cell? W _ h0
    rw [add_block] at this
    rw [e] at e'
    injection e' with e'
    rw [e']
    exact this
section
variable {K : Nat → Prop} {w0 W : World} {ts : List (Tree × Value)} {ps : List Pc} {bs : List (Nat × Obj)}
theorem up_ku {n : Nat} {K' : Nat → Prop} (hK : ∀ k, K' k → K k) (hu : ∀ k, n ≤ k → K k) : ∀ k, KU K' n k → K k := fun k h => h.elim (hK k) (hu k)
theorem all_env (h : Env K w0 W ts ps bs) {t : Tree} {v : Value} (hm : (t, v) ∈ ts) : Calls Tryd.prog 58 #[v] W fun e w' => e = .returned (.agg #[.int .i64 t.sm.tot, .int .i64 t.sm.lv, .int .i64 t.ht, .int .i64 t.sm.mi, .int .i64 t.sm.am, .int .i64 t.sm.ma]) ∧ Env K w0 w' ts ps bs :=
  (all_calls (h.t _ hm).rep).mono fun e w' ⟨he, hb⟩ => ⟨he, h.below hb⟩
theorem open_env (h : Env K w0 W ts ps bs) {l r : Tree} {rs : List Int} {hid plus : Int} {v : Value} (hm : (.node l rs hid r plus, v) ∈ ts) : Calls Tryd.prog 60 #[v] W fun e w' => ∃ v1 v2 A c, e = .returned (.tuple #[v1, .agg #[.slice A rs.length c, .int .i64 (hid + plus)], v2]) ∧ Env K w0 w' ((l.lift plus, v1) :: (r.lift plus, v2) :: ts) (⟨rs, hid + plus, A, c⟩ :: ps) bs := by
  obtain ⟨hr, hg⟩ := h.t _ hm
  refine (open_calls (K := fun k => K k ∧ k < W.heap.size) (fun k hk => hk.2) (hr.bound hg) hg).mono ?_
  rintro e w' ⟨v1, v2, A, c, he, h1, h2, h3, h4, h5, hb⟩
  obtain ⟨g1, g2, g3, g4, g5, g6, g7, g8, g9⟩ := hg
  have hu := up_ku (n := W.heap.size) (K := K) (K' := fun k => K k ∧ k < W.heap.size) (fun k hk => hk.1) h.up
  have e' := h.below hb
  refine ⟨v1, v2, A, c, he, Env.addT (Env.addT (Env.addP e' ⟨h3, fun ad e => (h4 ad e).1, h5, g1, by simp at g4 g5; exact ⟨by show 0 ≤ hid + plus; omega, by show hid + plus ≤ 1048577; omega⟩⟩) ⟨h2.mono hu, Tree.Good.lift (by simpa using g9)⟩) ⟨h1.mono hu, Tree.Good.lift (by simpa using g8)⟩⟩
theorem knot_env (h : Env K w0 W ts ps bs) {l r : Tree} {vl vr : Value} {p : Pc} (hl : (l, vl) ∈ ts) (hr : (r, vr) ∈ ts) (hp : p ∈ ps) (h1 : l.ht ≤ r.ht + 1) (h2 : r.ht ≤ l.ht + 1) (hsz : l.cells.length + p.rs.length + r.cells.length ≤ 1073741824) : Calls Tryd.prog 98 #[vl, .agg #[.slice p.A p.rs.length p.c, .int .i64 p.hid], vr] W fun e w' => ∃ v, e = .returned v ∧ Env K w0 w' ((.node l p.rs p.hid r 0, v) :: ts) ps bs := by
  have tl := h.t _ hl
  have tr := h.t _ hr
  have tp := h.p _ hp
  have hh := tp.h
  refine (knot_calls tl.rep tr.rep tl.good tr.good tp.ra tp.k tp.cap tp.ne hh hsz).mono ?_
  rintro e w' ⟨v, he, hv, hb⟩
  exact ⟨v, he, (h.below hb).addT ⟨hv.mono (up_ku (fun k hk => hk) h.up), tp.ne, hh.1, hh.2, by omega, by omega, h1, h2, by simpa using tl.good, by simpa using tr.good⟩⟩
end
theorem cells_open (l : Tree) (rs : List Int) (hid : Int) (r : Tree) (plus : Int) : (Tree.node l rs hid r plus).cells = (l.lift plus).cells ++ rs.map (fun c => (c, hid + plus)) ++ (r.lift plus).cells := by
  rw [Tree.cells_lift, Tree.cells_lift]
  simp only [Tree.cells, List.map_append, List.map_map]
  rfl
theorem cells_knot (l : Tree) (rs : List Int) (hid : Int) (r : Tree) : (Tree.node l rs hid r 0).cells = l.cells ++ rs.map (fun c => (c, hid)) ++ r.cells := by
  rw [cells_open, lift_zero_tree, lift_zero_tree, Int.add_zero]
def Made (K : Nat → Prop) (w0 : World) (ts : List (Tree × Value)) (ps : List Pc) (bs : List (Nat × Obj)) (cs : List (Int × Int)) (lo hi : Nat) (e : Ending) (w' : World) : Prop := ∃ t v, e = .returned v ∧ Env K w0 w' ((t, v) :: ts) ps bs ∧ t.cells = cs ∧ lo ≤ t.ht ∧ t.ht ≤ hi
theorem Tree.Good.hts {l : Tree} {rs : List Int} {hid : Int} {r : Tree} {plus A : Int} (h : (Tree.node l rs hid r plus).Good A) : l.ht ≤ r.ht + 1 ∧ r.ht ≤ l.ht + 1 := ⟨h.2.2.2.2.2.1, h.2.2.2.2.2.2.1⟩
theorem Tree.Good.ht_cells {t : Tree} {A : Int} (h : t.Good A) : t.ht ≤ t.cells.length := Nat.le_trans (Tree.ht_le t) (Tree.size_le h)
theorem len_open (l : Tree) (rs : List Int) (hid : Int) (r : Tree) (plus : Int) : (Tree.node l rs hid r plus).cells.length = l.cells.length + rs.length + r.cells.length := by
  simp [Tree.cells, Nat.add_assoc]
theorem len_lift (t : Tree) (b : Int) : (t.lift b).cells.length = t.cells.length := by rw [Tree.cells_lift, List.length_map]
attribute [local go_sem] run_field2 run_field0
section
variable {α : Type} {x a b c d : α} {l : List α}
theorem m0 : x ∈ x :: l := List.mem_cons_self
theorem m1 : x ∈ a :: x :: l := List.mem_cons_of_mem _ m0
theorem m2 : x ∈ a :: b :: x :: l := List.mem_cons_of_mem _ m1
theorem m3 : x ∈ a :: b :: c :: x :: l := List.mem_cons_of_mem _ m2
theorem u1 (h : x ∈ l) : x ∈ a :: l := List.mem_cons_of_mem _ h
theorem u2 (h : x ∈ l) : x ∈ a :: b :: l := u1 (u1 h)
theorem u3 (h : x ∈ l) : x ∈ a :: b :: c :: l := u1 (u2 h)
theorem u4 (h : x ∈ l) : x ∈ a :: b :: c :: d :: l := u1 (u3 h)
theorem m4 {x a b c d : α} {l : List α} : x ∈ a :: b :: c :: d :: x :: l := List.mem_cons_of_mem _ m3
theorem u5 {x a b c d e : α} {l : List α} (h : x ∈ l) : x ∈ a :: b :: c :: d :: e :: l := u1 (u4 h)
theorem u6 {x a b c d e f : α} {l : List α} (h : x ∈ l) : x ∈ a :: b :: c :: d :: e :: f :: l := u1 (u5 h)
theorem sub_keep {l' : List α} (h : ∀ y ∈ l, y ∈ l') : ∀ y ∈ x :: l, y ∈ x :: l' := fun y hy => (List.mem_cons.1 hy).elim (fun e => e ▸ m0) (fun h' => u1 (h y h'))
end
set_option maxRecDepth 100000 in
set_option maxHeartbeats 4000000 in
theorem weigh_l1 {K : Nat → Prop} {w0 W : World} {ts : List (Tree × Value)} {ps : List Pc} {bs : List (Nat × Obj)} (h : Env K w0 W ts ps bs) {ll lr q : Tree} {lrs : List Int} {lhid lplus : Int} {vl vq : Value} {p : Pc} (hl : ((Tree.node ll lrs lhid lr lplus), vl) ∈ ts) (hq : (q, vq) ∈ ts) (hp : p ∈ ps) (hh : (Tree.node ll lrs lhid lr lplus).ht = q.ht + 2) (hge : lr.ht ≤ ll.ht) (hsz : (Tree.node ll lrs lhid lr lplus).cells.length + p.rs.length + q.cells.length ≤ 1073741824) :
    Calls Tryd.prog 129 #[vl, .agg #[.slice p.A p.rs.length p.c, .int .i64 p.hid], vq] W (Made K w0 ts ps bs ((Tree.node ll lrs lhid lr lplus).cells ++ p.cells ++ q.cells) (q.ht + 2) (q.ht + 3)) := by
  have gl : (Tree.node ll lrs lhid lr lplus).Good 0 := (h.t _ hl).good
  have gq : q.Good 0 := (h.t _ hq).good
  have a1 := gl.hts
  have a3 := gq.ht_cells
  have a4 := len_open ll lrs lhid lr lplus
  have a6 : (Tree.node ll lrs lhid lr lplus).ht = 1 + max ll.ht lr.ht := rfl
  have f1 : (((lr.lift lplus).ht : Nat) : Int) = ((lr.ht : Nat) : Int) := by rw [Tree.ht_lift]
  have f2 : (((ll.lift lplus).ht : Nat) : Int) = ((ll.ht : Nat) : Int) := by rw [Tree.ht_lift]
  have c2 : decide (lr.ht ≤ ll.ht) = true := by simp; omega
  have c1 : ((q.ht : Nat) : Int) + 1 < (((Tree.node ll lrs lhid lr lplus).ht : Nat) : Int) := by omega
  have c3 : ¬ ((((Tree.node ll lrs lhid lr lplus).ht : Nat) : Int) + 1 < ((q.ht : Nat) : Int)) := by omega
  have q1 : (0 : Int) ≤ ((q.ht : Nat) : Int) := by omega
  have q2 : ((q.ht : Nat) : Int) ≤ 1073741824 := by omega
  have q3 : (((Tree.node ll lrs lhid lr lplus).ht : Nat) : Int) ≤ 1073741826 := by omega
  have k1 : (lr.lift lplus).ht ≤ q.ht + 1 := by rw [Tree.ht_lift]; omega
  have k2 : q.ht ≤ (lr.lift lplus).ht + 1 := by rw [Tree.ht_lift]; omega
  have s1 : (lr.lift lplus).cells.length + p.rs.length + q.cells.length ≤ 1073741824 := by rw [len_lift]; omega
  have b1 := len_open (lr.lift lplus) p.rs p.hid q 0
  have hN : (Tree.node (lr.lift lplus) p.rs p.hid q 0).ht = 1 + max (lr.lift lplus).ht q.ht := rfl
  rw [len_lift] at b1
  rw [Tree.ht_lift] at hN
  have k3 : (ll.lift lplus).ht ≤ (Tree.node (lr.lift lplus) p.rs p.hid q 0).ht + 1 := by rw [Tree.ht_lift]; omega
  have k4 : (Tree.node (lr.lift lplus) p.rs p.hid q 0).ht ≤ (ll.lift lplus).ht + 1 := by rw [Tree.ht_lift]; omega
  have s2 : (ll.lift lplus).cells.length + lrs.length + (Tree.node (lr.lift lplus) p.rs p.hid q 0).cells.length ≤ 1073741824 := by rw [len_lift]; omega
  have hR : (Tree.node (ll.lift lplus) lrs (lhid + lplus) (Tree.node (lr.lift lplus) p.rs p.hid q 0) 0).ht = 1 + max (ll.lift lplus).ht (Tree.node (lr.lift lplus) p.rs p.hid q 0).ht := rfl
  rw [Tree.ht_lift] at hR
  have h8 : q.ht + 2 ≤ (Tree.node (ll.lift lplus) lrs (lhid + lplus) (Tree.node (lr.lift lplus) p.rs p.hid q 0) 0).ht ∧ (Tree.node (ll.lift lplus) lrs (lhid + lplus) (Tree.node (lr.lift lplus) p.rs p.hid q 0) 0).ht ≤ q.ht + 3 := by omega
  have hcs : (Tree.node (ll.lift lplus) lrs (lhid + lplus) (Tree.node (lr.lift lplus) p.rs p.hid q 0) 0).cells = (Tree.node ll lrs lhid lr lplus).cells ++ p.cells ++ q.cells := by rw [cells_knot, cells_knot, cells_open ll lrs lhid lr lplus]; simp only [Pc.cells, List.append_assoc]
  have Hhcs := Lib.hid hcs
  have Hh8 := Lib.hid h8
  clear hh a1 a3 a4 a6 f1 f2 hcs h8 b1 hN hR
  have tok : True := trivial
  go_enter Tryd.func129, Tryd.ntmps129
  go_wp2_with fail
  refine (all_env (h.box _) hl).mono ?_
  rintro e w1 ⟨rfl, hE1⟩
  go_wp2_with fail
  refine (all_env hE1 hq).mono ?_
  rintro e w2 ⟨rfl, hE2⟩
  go_wp2_with fail
  refine (open_env hE2 hl).mono ?_
  rintro e w3 ⟨v1, v2, A3, c3, rfl, hE3⟩
  go_wp2_with fail
  refine (all_env (hE3.box _) List.mem_cons_self).mono ?_
  rintro e w4 ⟨rfl, hE4⟩
  go_wp2_with fail
  refine (all_env hE4 (List.mem_cons_of_mem _ List.mem_cons_self)).mono ?_
  rintro e w5 ⟨rfl, hE5⟩
  go_wp2_with fail
  have mP : (W.heap.size, p.obj) ∈ ((w3.heap.size, Pc.obj ⟨lrs, lhid + lplus, A3, c3⟩) :: (W.heap.size, p.obj) :: bs : List (Nat × Obj)) := List.mem_cons_of_mem _ List.mem_cons_self
  have mL : (w3.heap.size, Pc.obj ⟨lrs, lhid + lplus, A3, c3⟩) ∈ ((w3.heap.size, Pc.obj ⟨lrs, lhid + lplus, A3, c3⟩) :: (W.heap.size, p.obj) :: bs : List (Nat × Obj)) := List.mem_cons_self
  have x00 := hE5.drew.cell0 mP
  have x01 := hE5.drew.cell1 mP
  have x10 := hE5.drew.cell0 mL
  have x11 := hE5.drew.cell1 mL
  dsimp only at x10 x11
  go_region_held3 (fun W' => W'.cell? ⟨W.heap.size, 0, none⟩ = some (.slice p.A p.rs.length p.c) ∧ W'.cell? ⟨W.heap.size, 1, none⟩ = some (.int .i64 (p.hid)) ∧ W'.cell? ⟨w3.heap.size, 0, none⟩ = some (.slice A3 lrs.length c3) ∧ W'.cell? ⟨w3.heap.size, 1, none⟩ = some (.int .i64 (lhid + lplus)))
    (first | with_reducible exact ⟨x00, x01, x10, x11⟩ | with_reducible exact ⟨hE6.cell0 mP, hE6.cell1 mP, hE6.cell0 mL, hE6.cell1 mL⟩ | with_reducible exact ⟨hE7.cell0 mP, hE7.cell1 mP, hE7.cell0 mL, hE7.cell1 mL⟩)
    (first
      | (go_at_call 98; clear tok; refine (knot_env hE5.drew (l := lr.lift lplus) (r := q) (p := p) m1 (u2 hq) (u1 hp) k1 k2 s1).mono ?_; rintro e w6 ⟨v6, rfl, hE6⟩)
      | (go_at_call 98; refine (knot_env hE6 (l := ll.lift lplus) (r := (Tree.node (lr.lift lplus) p.rs p.hid q 0)) (p := ⟨lrs, lhid + lplus, A3, c3⟩) m1 m0 m0 k3 k4 s2).mono ?_; rintro e w7 ⟨v7, rfl, hE7⟩))
  all_goals
    go_wp2
    go_ret
    exact ⟨_, v7, rfl, hE7.sub (sub_keep fun y hy => u3 hy) (fun y hy => u1 hy) (fun y hy => u2 hy), Hhcs.out, Hh8.out.1, Hh8.out.2⟩
set_option maxRecDepth 100000 in
set_option maxHeartbeats 4000000 in
theorem weigh_r1 {K : Nat → Prop} {w0 W : World} {ts : List (Tree × Value)} {ps : List Pc} {bs : List (Nat × Obj)} (h : Env K w0 W ts ps bs) {ll lr q : Tree} {lrs : List Int} {lhid lplus : Int} {vl vq : Value} {p : Pc} (hl : ((Tree.node ll lrs lhid lr lplus), vl) ∈ ts) (hq : (q, vq) ∈ ts) (hp : p ∈ ps) (hh : (Tree.node ll lrs lhid lr lplus).ht = q.ht + 2) (hge : ll.ht ≤ lr.ht) (hsz : (Tree.node ll lrs lhid lr lplus).cells.length + p.rs.length + q.cells.length ≤ 1073741824) :
    Calls Tryd.prog 129 #[vq, .agg #[.slice p.A p.rs.length p.c, .int .i64 p.hid], vl] W (Made K w0 ts ps bs (q.cells ++ p.cells ++ (Tree.node ll lrs lhid lr lplus).cells) (q.ht + 2) (q.ht + 3)) := by
  have gl : (Tree.node ll lrs lhid lr lplus).Good 0 := (h.t _ hl).good
  have gq : q.Good 0 := (h.t _ hq).good
  have a1 := gl.hts
  have a3 := gq.ht_cells
  have a4 := len_open ll lrs lhid lr lplus
  have a6 : (Tree.node ll lrs lhid lr lplus).ht = 1 + max ll.ht lr.ht := rfl
  have f1 : (((ll.lift lplus).ht : Nat) : Int) = ((ll.ht : Nat) : Int) := by rw [Tree.ht_lift]
  have f2 : (((lr.lift lplus).ht : Nat) : Int) = ((lr.ht : Nat) : Int) := by rw [Tree.ht_lift]
  have c2 : decide (ll.ht ≤ lr.ht) = true := by simp; omega
  have c1 : ((q.ht : Nat) : Int) + 1 < (((Tree.node ll lrs lhid lr lplus).ht : Nat) : Int) := by omega
  have c3 : ¬ ((((Tree.node ll lrs lhid lr lplus).ht : Nat) : Int) + 1 < ((q.ht : Nat) : Int)) := by omega
  have q1 : (0 : Int) ≤ ((q.ht : Nat) : Int) := by omega
  have q2 : ((q.ht : Nat) : Int) ≤ 1073741824 := by omega
  have q3 : (((Tree.node ll lrs lhid lr lplus).ht : Nat) : Int) ≤ 1073741826 := by omega
  have k1 : (ll.lift lplus).ht ≤ q.ht + 1 := by rw [Tree.ht_lift]; omega
  have k2 : q.ht ≤ (ll.lift lplus).ht + 1 := by rw [Tree.ht_lift]; omega
  have s1 : (ll.lift lplus).cells.length + p.rs.length + q.cells.length ≤ 1073741824 := by rw [len_lift]; omega
  have b1 := len_open q p.rs p.hid (ll.lift lplus) 0
  have hN : (Tree.node q p.rs p.hid (ll.lift lplus) 0).ht = 1 + max q.ht (ll.lift lplus).ht := rfl
  rw [len_lift] at b1
  rw [Tree.ht_lift] at hN
  have k3 : (lr.lift lplus).ht ≤ (Tree.node q p.rs p.hid (ll.lift lplus) 0).ht + 1 := by rw [Tree.ht_lift]; omega
  have k4 : (Tree.node q p.rs p.hid (ll.lift lplus) 0).ht ≤ (lr.lift lplus).ht + 1 := by rw [Tree.ht_lift]; omega
  have s2 : (lr.lift lplus).cells.length + lrs.length + (Tree.node q p.rs p.hid (ll.lift lplus) 0).cells.length ≤ 1073741824 := by rw [len_lift]; omega
  have hR : (Tree.node (Tree.node q p.rs p.hid (ll.lift lplus) 0) lrs (lhid + lplus) (lr.lift lplus) 0).ht = 1 + max (Tree.node q p.rs p.hid (ll.lift lplus) 0).ht (lr.lift lplus).ht := rfl
  rw [Tree.ht_lift] at hR
  have h8 : q.ht + 2 ≤ (Tree.node (Tree.node q p.rs p.hid (ll.lift lplus) 0) lrs (lhid + lplus) (lr.lift lplus) 0).ht ∧ (Tree.node (Tree.node q p.rs p.hid (ll.lift lplus) 0) lrs (lhid + lplus) (lr.lift lplus) 0).ht ≤ q.ht + 3 := by omega
  have hcs : (Tree.node (Tree.node q p.rs p.hid (ll.lift lplus) 0) lrs (lhid + lplus) (lr.lift lplus) 0).cells = q.cells ++ p.cells ++ (Tree.node ll lrs lhid lr lplus).cells := by rw [cells_knot, cells_knot, cells_open ll lrs lhid lr lplus]; simp only [Pc.cells, List.append_assoc]
  have Hhcs := Lib.hid hcs
  have Hh8 := Lib.hid h8
  clear hh a1 a3 a4 a6 f1 f2 hcs h8 b1 hN hR
  have tok : True := trivial
  go_enter Tryd.func129, Tryd.ntmps129
  go_wp2_with fail
  refine (all_env (h.box _) hq).mono ?_
  rintro e w1 ⟨rfl, hE1⟩
  go_wp2_with fail
  refine (all_env hE1 hl).mono ?_
  rintro e w2 ⟨rfl, hE2⟩
  go_wp2_with fail
  refine (open_env hE2 hl).mono ?_
  rintro e w3 ⟨v1, v2, A3, c3, rfl, hE3⟩
  go_wp2_with fail
  refine (all_env (hE3.box _) (List.mem_cons_of_mem _ List.mem_cons_self)).mono ?_
  rintro e w4 ⟨rfl, hE4⟩
  go_wp2_with fail
  refine (all_env hE4 List.mem_cons_self).mono ?_
  rintro e w5 ⟨rfl, hE5⟩
  go_wp2_with fail
  have mP : (W.heap.size, p.obj) ∈ ((w3.heap.size, Pc.obj ⟨lrs, lhid + lplus, A3, c3⟩) :: (W.heap.size, p.obj) :: bs : List (Nat × Obj)) := List.mem_cons_of_mem _ List.mem_cons_self
  have mL : (w3.heap.size, Pc.obj ⟨lrs, lhid + lplus, A3, c3⟩) ∈ ((w3.heap.size, Pc.obj ⟨lrs, lhid + lplus, A3, c3⟩) :: (W.heap.size, p.obj) :: bs : List (Nat × Obj)) := List.mem_cons_self
  have x00 := hE5.drew.cell0 mP
  have x01 := hE5.drew.cell1 mP
  have x10 := hE5.drew.cell0 mL
  have x11 := hE5.drew.cell1 mL
  dsimp only at x10 x11
  go_region_held3 (fun W' => W'.cell? ⟨W.heap.size, 0, none⟩ = some (.slice p.A p.rs.length p.c) ∧ W'.cell? ⟨W.heap.size, 1, none⟩ = some (.int .i64 (p.hid)) ∧ W'.cell? ⟨w3.heap.size, 0, none⟩ = some (.slice A3 lrs.length c3) ∧ W'.cell? ⟨w3.heap.size, 1, none⟩ = some (.int .i64 (lhid + lplus)))
    (first | with_reducible exact ⟨x00, x01, x10, x11⟩ | with_reducible exact ⟨hE6.cell0 mP, hE6.cell1 mP, hE6.cell0 mL, hE6.cell1 mL⟩ | with_reducible exact ⟨hE7.cell0 mP, hE7.cell1 mP, hE7.cell0 mL, hE7.cell1 mL⟩)
    (first
      | (go_at_call 98; clear tok; refine (knot_env hE5.drew (l := q) (r := ll.lift lplus) (p := p) (u2 hq) m0 (u1 hp) k2 k1 (by omega)).mono ?_; rintro e w6 ⟨v6, rfl, hE6⟩)
      | (go_at_call 98; refine (knot_env hE6 (l := (Tree.node q p.rs p.hid (ll.lift lplus) 0)) (r := lr.lift lplus) (p := ⟨lrs, lhid + lplus, A3, c3⟩) m0 m2 m0 k4 k3 (by show _ + lrs.length + _ ≤ _; omega)).mono ?_; rintro e w7 ⟨v7, rfl, hE7⟩))
  all_goals
    go_wp2
    go_ret
    exact ⟨_, v7, rfl, hE7.sub (sub_keep fun y hy => u3 hy) (fun y hy => u1 hy) (fun y hy => u2 hy), Hhcs.out, Hh8.out.1, Hh8.out.2⟩
set_option maxRecDepth 100000 in
set_option maxHeartbeats 4000000 in
theorem weigh_l2 {K : Nat → Prop} {w0 W : World} {ts : List (Tree × Value)} {ps : List Pc} {bs : List (Nat × Obj)} (h : Env K w0 W ts ps bs) {ll xl xr q : Tree} {lrs xrs : List Int} {lhid lplus xhid xplus : Int} {vl vq : Value} {p : Pc} (hl : ((Tree.node ll lrs lhid (Tree.node xl xrs xhid xr xplus) lplus), vl) ∈ ts) (hq : (q, vq) ∈ ts) (hp : p ∈ ps) (hh : (Tree.node ll lrs lhid (Tree.node xl xrs xhid xr xplus) lplus).ht = q.ht + 2) (hge : ll.ht < (Tree.node xl xrs xhid xr xplus).ht) (hsz : (Tree.node ll lrs lhid (Tree.node xl xrs xhid xr xplus) lplus).cells.length + p.rs.length + q.cells.length ≤ 1073741824) :
    Calls Tryd.prog 129 #[vl, .agg #[.slice p.A p.rs.length p.c, .int .i64 p.hid], vq] W (Made K w0 ts ps bs ((Tree.node ll lrs lhid (Tree.node xl xrs xhid xr xplus) lplus).cells ++ p.cells ++ q.cells) (q.ht + 2) (q.ht + 3)) := by
  have gl : (Tree.node ll lrs lhid (Tree.node xl xrs xhid xr xplus) lplus).Good 0 := (h.t _ hl).good
  have gq : q.Good 0 := (h.t _ hq).good
  have a1 := gl.hts
  have a2 : xl.ht ≤ xr.ht + 1 ∧ xr.ht ≤ xl.ht + 1 := gl.2.2.2.2.2.2.2.2.hts
  have a3 := gq.ht_cells
  have a4 := len_open ll lrs lhid (Tree.node xl xrs xhid xr xplus) lplus
  have a5 := len_open xl xrs xhid xr xplus
  have a6 : (Tree.node ll lrs lhid (Tree.node xl xrs xhid xr xplus) lplus).ht = 1 + max ll.ht (Tree.node xl xrs xhid xr xplus).ht := rfl
  have a7 : (Tree.node xl xrs xhid xr xplus).ht = 1 + max xl.ht xr.ht := rfl
  have f1 : ((((Tree.node xl xrs xhid xr xplus).lift lplus).ht : Nat) : Int) = (((Tree.node xl xrs xhid xr xplus).ht : Nat) : Int) := by rw [Tree.ht_lift]
  have f2 : (((ll.lift lplus).ht : Nat) : Int) = ((ll.ht : Nat) : Int) := by rw [Tree.ht_lift]
  have c2 : decide ((Tree.node xl xrs xhid xr xplus).ht ≤ ll.ht) = false := by simp; omega
  have c1 : ((q.ht : Nat) : Int) + 1 < (((Tree.node ll lrs lhid (Tree.node xl xrs xhid xr xplus) lplus).ht : Nat) : Int) := by omega
  have c3 : ¬ ((((Tree.node ll lrs lhid (Tree.node xl xrs xhid xr xplus) lplus).ht : Nat) : Int) + 1 < ((q.ht : Nat) : Int)) := by omega
  have q1 : (0 : Int) ≤ ((q.ht : Nat) : Int) := by omega
  have q2 : ((q.ht : Nat) : Int) ≤ 1073741824 := by omega
  have q3 : (((Tree.node ll lrs lhid (Tree.node xl xrs xhid xr xplus) lplus).ht : Nat) : Int) ≤ 1073741826 := by omega
  have k1 : (ll.lift lplus).ht ≤ (xl.lift (xplus + lplus)).ht + 1 := by rw [Tree.ht_lift, Tree.ht_lift]; omega
  have k2 : (xl.lift (xplus + lplus)).ht ≤ (ll.lift lplus).ht + 1 := by rw [Tree.ht_lift, Tree.ht_lift]; omega
  have k3 : (xr.lift (xplus + lplus)).ht ≤ q.ht + 1 := by rw [Tree.ht_lift]; omega
  have k4 : q.ht ≤ (xr.lift (xplus + lplus)).ht + 1 := by rw [Tree.ht_lift]; omega
  have s1 : (ll.lift lplus).cells.length + lrs.length + (xl.lift (xplus + lplus)).cells.length ≤ 1073741824 := by rw [len_lift, len_lift]; omega
  have s2 : (xr.lift (xplus + lplus)).cells.length + p.rs.length + q.cells.length ≤ 1073741824 := by rw [len_lift]; omega
  have hF : (Tree.node (ll.lift lplus) lrs (lhid + lplus) (xl.lift (xplus + lplus)) 0).ht = 1 + max (ll.lift lplus).ht (xl.lift (xplus + lplus)).ht := rfl
  have hQ : (Tree.node (xr.lift (xplus + lplus)) p.rs p.hid q 0).ht = 1 + max (xr.lift (xplus + lplus)).ht q.ht := rfl
  rw [Tree.ht_lift, Tree.ht_lift] at hF
  rw [Tree.ht_lift] at hQ
  have bF := len_open (ll.lift lplus) lrs (lhid + lplus) (xl.lift (xplus + lplus)) 0
  have bQ := len_open (xr.lift (xplus + lplus)) p.rs p.hid q 0
  rw [len_lift, len_lift] at bF
  rw [len_lift] at bQ
  have k5 : (Tree.node (ll.lift lplus) lrs (lhid + lplus) (xl.lift (xplus + lplus)) 0).ht ≤ (Tree.node (xr.lift (xplus + lplus)) p.rs p.hid q 0).ht + 1 := by omega
  have k6 : (Tree.node (xr.lift (xplus + lplus)) p.rs p.hid q 0).ht ≤ (Tree.node (ll.lift lplus) lrs (lhid + lplus) (xl.lift (xplus + lplus)) 0).ht + 1 := by omega
  have s3 : (Tree.node (ll.lift lplus) lrs (lhid + lplus) (xl.lift (xplus + lplus)) 0).cells.length + xrs.length + (Tree.node (xr.lift (xplus + lplus)) p.rs p.hid q 0).cells.length ≤ 1073741824 := by omega
  have hR : (Tree.node (Tree.node (ll.lift lplus) lrs (lhid + lplus) (xl.lift (xplus + lplus)) 0) xrs (xhid + (xplus + lplus)) (Tree.node (xr.lift (xplus + lplus)) p.rs p.hid q 0) 0).ht = 1 + max (Tree.node (ll.lift lplus) lrs (lhid + lplus) (xl.lift (xplus + lplus)) 0).ht (Tree.node (xr.lift (xplus + lplus)) p.rs p.hid q 0).ht := rfl
  have h8 : q.ht + 2 ≤ (Tree.node (Tree.node (ll.lift lplus) lrs (lhid + lplus) (xl.lift (xplus + lplus)) 0) xrs (xhid + (xplus + lplus)) (Tree.node (xr.lift (xplus + lplus)) p.rs p.hid q 0) 0).ht ∧ (Tree.node (Tree.node (ll.lift lplus) lrs (lhid + lplus) (xl.lift (xplus + lplus)) 0) xrs (xhid + (xplus + lplus)) (Tree.node (xr.lift (xplus + lplus)) p.rs p.hid q 0) 0).ht ≤ q.ht + 3 := by omega
  have hcs : (Tree.node (Tree.node (ll.lift lplus) lrs (lhid + lplus) (xl.lift (xplus + lplus)) 0) xrs (xhid + (xplus + lplus)) (Tree.node (xr.lift (xplus + lplus)) p.rs p.hid q 0) 0).cells = (Tree.node ll lrs lhid (Tree.node xl xrs xhid xr xplus) lplus).cells ++ p.cells ++ q.cells := by rw [cells_knot, cells_knot, cells_knot, cells_open ll lrs lhid (Tree.node xl xrs xhid xr xplus) lplus, show (Tree.node xl xrs xhid xr xplus).lift lplus = .node xl xrs xhid xr (xplus + lplus) from rfl, cells_open xl xrs xhid xr (xplus + lplus)]; simp only [Pc.cells, List.append_assoc]
  have Hhcs := Lib.hid hcs
  have Hh8 := Lib.hid h8
  clear hh a1 a3 a4 a6 f1 f2 hcs h8 a2 a5 a7 hF hQ bF bQ hR
  have tok : True := trivial
  go_enter Tryd.func129, Tryd.ntmps129
  go_wp2_with fail
  refine (all_env (h.box _) hl).mono ?_
  rintro e w1 ⟨rfl, hE1⟩
  go_wp2_with fail
  refine (all_env hE1 hq).mono ?_
  rintro e w2 ⟨rfl, hE2⟩
  go_wp2_with fail
  refine (open_env hE2 hl).mono ?_
  rintro e w3 ⟨v1, v2, A3, c3, rfl, hE3⟩
  go_wp2_with fail
  refine (all_env (hE3.box _) List.mem_cons_self).mono ?_
  rintro e w4 ⟨rfl, hE4⟩
  go_wp2_with fail
  refine (all_env hE4 (List.mem_cons_of_mem _ List.mem_cons_self)).mono ?_
  rintro e w5 ⟨rfl, hE5⟩
  go_wp2_with fail
  have tok2 : True := trivial
  refine (open_env hE5 (l := xl) (r := xr) (rs := xrs) (hid := xhid) (plus := xplus + lplus) (v := v2) m1).mono ?_
  rintro e w6 ⟨v3, v4, A6, c6, rfl, hE6⟩
  have hE7 := hE6.box (.cells #[.slice A6 xrs.length c6, .int .i64 (xhid + (xplus + lplus))] 113)
  go_wp2_with fail
  have mP : (W.heap.size, p.obj) ∈ ((w6.heap.size, Pc.obj ⟨xrs, xhid + (xplus + lplus), A6, c6⟩) :: (w3.heap.size, Pc.obj ⟨lrs, lhid + lplus, A3, c3⟩) :: (W.heap.size, p.obj) :: bs : List (Nat × Obj)) := m2
  have mL : (w3.heap.size, Pc.obj ⟨lrs, lhid + lplus, A3, c3⟩) ∈ ((w6.heap.size, Pc.obj ⟨xrs, xhid + (xplus + lplus), A6, c6⟩) :: (w3.heap.size, Pc.obj ⟨lrs, lhid + lplus, A3, c3⟩) :: (W.heap.size, p.obj) :: bs : List (Nat × Obj)) := m1
  have mX : (w6.heap.size, Pc.obj ⟨xrs, xhid + (xplus + lplus), A6, c6⟩) ∈ ((w6.heap.size, Pc.obj ⟨xrs, xhid + (xplus + lplus), A6, c6⟩) :: (w3.heap.size, Pc.obj ⟨lrs, lhid + lplus, A3, c3⟩) :: (W.heap.size, p.obj) :: bs : List (Nat × Obj)) := m0
  have x00 := hE7.drew.cell0 mP
  have x01 := hE7.drew.cell1 mP
  have x10 := hE7.drew.cell0 mL
  have x11 := hE7.drew.cell1 mL
  have x20 := hE7.drew.cell0 mX
  have x21 := hE7.drew.cell1 mX
  dsimp only at x10 x11 x20 x21
  go_region_held3 (fun W' => W'.cell? ⟨W.heap.size, 0, none⟩ = some (.slice p.A p.rs.length p.c) ∧ W'.cell? ⟨W.heap.size, 1, none⟩ = some (.int .i64 (p.hid)) ∧ W'.cell? ⟨w3.heap.size, 0, none⟩ = some (.slice A3 lrs.length c3) ∧ W'.cell? ⟨w3.heap.size, 1, none⟩ = some (.int .i64 (lhid + lplus)) ∧ W'.cell? ⟨w6.heap.size, 0, none⟩ = some (.slice A6 xrs.length c6) ∧ W'.cell? ⟨w6.heap.size, 1, none⟩ = some (.int .i64 (xhid + (xplus + lplus))))
    (first | with_reducible exact ⟨x00, x01, x10, x11, x20, x21⟩ | with_reducible exact ⟨hE8.cell0 mP, hE8.cell1 mP, hE8.cell0 mL, hE8.cell1 mL, hE8.cell0 mX, hE8.cell1 mX⟩ | with_reducible exact ⟨hE9.cell0 mP, hE9.cell1 mP, hE9.cell0 mL, hE9.cell1 mL, hE9.cell0 mX, hE9.cell1 mX⟩ | with_reducible exact ⟨hE10.cell0 mP, hE10.cell1 mP, hE10.cell0 mL, hE10.cell1 mL, hE10.cell0 mX, hE10.cell1 mX⟩)
    (first
      | (go_at_call 98; clear tok; refine (knot_env hE7.drew (l := ll.lift lplus) (r := (xl.lift (xplus + lplus))) (p := ⟨lrs, lhid + lplus, A3, c3⟩) m2 m0 m1 k1 k2 s1).mono ?_; rintro e w8 ⟨v8, rfl, hE8⟩)
      | (go_at_call 98; clear tok2; refine (knot_env hE8 (l := (xr.lift (xplus + lplus))) (r := q) (p := p) m2 (u5 hq) (u2 hp) k3 k4 s2).mono ?_; rintro e w9 ⟨v9, rfl, hE9⟩)
      | (go_at_call 98; refine (knot_env hE9 (l := (Tree.node (ll.lift lplus) lrs (lhid + lplus) (xl.lift (xplus + lplus)) 0)) (r := (Tree.node (xr.lift (xplus + lplus)) p.rs p.hid q 0)) (p := ⟨xrs, xhid + (xplus + lplus), A6, c6⟩) m1 m0 m0 k5 k6 s3).mono ?_; rintro e w10 ⟨v10, rfl, hE10⟩))
  all_goals
    go_wp2
    go_ret
    exact ⟨_, v10, rfl, hE10.sub (sub_keep fun y hy => u6 hy) (fun y hy => u2 hy) (fun y hy => u3 hy), Hhcs.out, Hh8.out.1, Hh8.out.2⟩
set_option maxRecDepth 100000 in
set_option maxHeartbeats 4000000 in
theorem weigh_r2 {K : Nat → Prop} {w0 W : World} {ts : List (Tree × Value)} {ps : List Pc} {bs : List (Nat × Obj)} (h : Env K w0 W ts ps bs) {lr xl xr q : Tree} {lrs xrs : List Int} {lhid lplus xhid xplus : Int} {vl vq : Value} {p : Pc} (hl : ((Tree.node (Tree.node xl xrs xhid xr xplus) lrs lhid lr lplus), vl) ∈ ts) (hq : (q, vq) ∈ ts) (hp : p ∈ ps) (hh : (Tree.node (Tree.node xl xrs xhid xr xplus) lrs lhid lr lplus).ht = q.ht + 2) (hge : lr.ht < (Tree.node xl xrs xhid xr xplus).ht) (hsz : (Tree.node (Tree.node xl xrs xhid xr xplus) lrs lhid lr lplus).cells.length + p.rs.length + q.cells.length ≤ 1073741824) :
    Calls Tryd.prog 129 #[vq, .agg #[.slice p.A p.rs.length p.c, .int .i64 p.hid], vl] W (Made K w0 ts ps bs (q.cells ++ p.cells ++ (Tree.node (Tree.node xl xrs xhid xr xplus) lrs lhid lr lplus).cells) (q.ht + 2) (q.ht + 3)) := by
  have gl : (Tree.node (Tree.node xl xrs xhid xr xplus) lrs lhid lr lplus).Good 0 := (h.t _ hl).good
  have gq : q.Good 0 := (h.t _ hq).good
  have a1 := gl.hts
  have a2 : xl.ht ≤ xr.ht + 1 ∧ xr.ht ≤ xl.ht + 1 := gl.2.2.2.2.2.2.2.1.hts
  have a3 := gq.ht_cells
  have a4 := len_open (Tree.node xl xrs xhid xr xplus) lrs lhid lr lplus
  have a5 := len_open xl xrs xhid xr xplus
  have a6 : (Tree.node (Tree.node xl xrs xhid xr xplus) lrs lhid lr lplus).ht = 1 + max (Tree.node xl xrs xhid xr xplus).ht lr.ht := rfl
  have a7 : (Tree.node xl xrs xhid xr xplus).ht = 1 + max xl.ht xr.ht := rfl
  have f1 : ((((Tree.node xl xrs xhid xr xplus).lift lplus).ht : Nat) : Int) = (((Tree.node xl xrs xhid xr xplus).ht : Nat) : Int) := by rw [Tree.ht_lift]
  have f2 : (((lr.lift lplus).ht : Nat) : Int) = ((lr.ht : Nat) : Int) := by rw [Tree.ht_lift]
  have c2 : decide ((Tree.node xl xrs xhid xr xplus).ht ≤ lr.ht) = false := by simp; omega
  have c1 : ((q.ht : Nat) : Int) + 1 < (((Tree.node (Tree.node xl xrs xhid xr xplus) lrs lhid lr lplus).ht : Nat) : Int) := by omega
  have c3 : ¬ ((((Tree.node (Tree.node xl xrs xhid xr xplus) lrs lhid lr lplus).ht : Nat) : Int) + 1 < ((q.ht : Nat) : Int)) := by omega
  have q1 : (0 : Int) ≤ ((q.ht : Nat) : Int) := by omega
  have q2 : ((q.ht : Nat) : Int) ≤ 1073741824 := by omega
  have q3 : (((Tree.node (Tree.node xl xrs xhid xr xplus) lrs lhid lr lplus).ht : Nat) : Int) ≤ 1073741826 := by omega
  have k1 : (lr.lift lplus).ht ≤ (xr.lift (xplus + lplus)).ht + 1 := by rw [Tree.ht_lift, Tree.ht_lift]; omega
  have k2 : (xr.lift (xplus + lplus)).ht ≤ (lr.lift lplus).ht + 1 := by rw [Tree.ht_lift, Tree.ht_lift]; omega
  have k3 : (xl.lift (xplus + lplus)).ht ≤ q.ht + 1 := by rw [Tree.ht_lift]; omega
  have k4 : q.ht ≤ (xl.lift (xplus + lplus)).ht + 1 := by rw [Tree.ht_lift]; omega
  have s1 : (lr.lift lplus).cells.length + lrs.length + (xr.lift (xplus + lplus)).cells.length ≤ 1073741824 := by rw [len_lift, len_lift]; omega
  have s2 : (xl.lift (xplus + lplus)).cells.length + p.rs.length + q.cells.length ≤ 1073741824 := by rw [len_lift]; omega
  have hF : (Tree.node (xr.lift (xplus + lplus)) lrs (lhid + lplus) (lr.lift lplus) 0).ht = 1 + max (xr.lift (xplus + lplus)).ht (lr.lift lplus).ht := rfl
  have hQ : (Tree.node q p.rs p.hid (xl.lift (xplus + lplus)) 0).ht = 1 + max q.ht (xl.lift (xplus + lplus)).ht := rfl
  rw [Tree.ht_lift, Tree.ht_lift] at hF
  rw [Tree.ht_lift] at hQ
  have bF := len_open (xr.lift (xplus + lplus)) lrs (lhid + lplus) (lr.lift lplus) 0
  have bQ := len_open q p.rs p.hid (xl.lift (xplus + lplus)) 0
  rw [len_lift, len_lift] at bF
  rw [len_lift] at bQ
  have k5 : (Tree.node q p.rs p.hid (xl.lift (xplus + lplus)) 0).ht ≤ (Tree.node (xr.lift (xplus + lplus)) lrs (lhid + lplus) (lr.lift lplus) 0).ht + 1 := by omega
  have k6 : (Tree.node (xr.lift (xplus + lplus)) lrs (lhid + lplus) (lr.lift lplus) 0).ht ≤ (Tree.node q p.rs p.hid (xl.lift (xplus + lplus)) 0).ht + 1 := by omega
  have s3 : (Tree.node q p.rs p.hid (xl.lift (xplus + lplus)) 0).cells.length + xrs.length + (Tree.node (xr.lift (xplus + lplus)) lrs (lhid + lplus) (lr.lift lplus) 0).cells.length ≤ 1073741824 := by omega
  have hR : (Tree.node (Tree.node q p.rs p.hid (xl.lift (xplus + lplus)) 0) xrs (xhid + (xplus + lplus)) (Tree.node (xr.lift (xplus + lplus)) lrs (lhid + lplus) (lr.lift lplus) 0) 0).ht = 1 + max (Tree.node q p.rs p.hid (xl.lift (xplus + lplus)) 0).ht (Tree.node (xr.lift (xplus + lplus)) lrs (lhid + lplus) (lr.lift lplus) 0).ht := rfl
  have h8 : q.ht + 2 ≤ (Tree.node (Tree.node q p.rs p.hid (xl.lift (xplus + lplus)) 0) xrs (xhid + (xplus + lplus)) (Tree.node (xr.lift (xplus + lplus)) lrs (lhid + lplus) (lr.lift lplus) 0) 0).ht ∧ (Tree.node (Tree.node q p.rs p.hid (xl.lift (xplus + lplus)) 0) xrs (xhid + (xplus + lplus)) (Tree.node (xr.lift (xplus + lplus)) lrs (lhid + lplus) (lr.lift lplus) 0) 0).ht ≤ q.ht + 3 := by omega
  have hcs : (Tree.node (Tree.node q p.rs p.hid (xl.lift (xplus + lplus)) 0) xrs (xhid + (xplus + lplus)) (Tree.node (xr.lift (xplus + lplus)) lrs (lhid + lplus) (lr.lift lplus) 0) 0).cells = q.cells ++ p.cells ++ (Tree.node (Tree.node xl xrs xhid xr xplus) lrs lhid lr lplus).cells := by rw [cells_knot, cells_knot, cells_knot, cells_open (Tree.node xl xrs xhid xr xplus) lrs lhid lr lplus, show (Tree.node xl xrs xhid xr xplus).lift lplus = .node xl xrs xhid xr (xplus + lplus) from rfl, cells_open xl xrs xhid xr (xplus + lplus)]; simp only [Pc.cells, List.append_assoc]
  have Hhcs := Lib.hid hcs
  have Hh8 := Lib.hid h8
  clear hh a1 a3 a4 a6 f1 f2 hcs h8 a2 a5 a7 hF hQ bF bQ hR
  have tok : True := trivial
  go_enter Tryd.func129, Tryd.ntmps129
  go_wp2_with fail
  refine (all_env (h.box _) hq).mono ?_
  rintro e w1 ⟨rfl, hE1⟩
  go_wp2_with fail
  refine (all_env hE1 hl).mono ?_
  rintro e w2 ⟨rfl, hE2⟩
  go_wp2_with fail
  refine (open_env hE2 hl).mono ?_
  rintro e w3 ⟨v1, v2, A3, c3, rfl, hE3⟩
  go_wp2_with fail
  refine (all_env (hE3.box _) (List.mem_cons_of_mem _ List.mem_cons_self)).mono ?_
  rintro e w4 ⟨rfl, hE4⟩
  go_wp2_with fail
  refine (all_env hE4 List.mem_cons_self).mono ?_
  rintro e w5 ⟨rfl, hE5⟩
  go_wp2_with fail
  have tok2 : True := trivial
  refine (open_env hE5 (l := xl) (r := xr) (rs := xrs) (hid := xhid) (plus := xplus + lplus) (v := v1) m0).mono ?_
  rintro e w6 ⟨v3, v4, A6, c6, rfl, hE6⟩
  have hE7 := hE6.box (.cells #[.slice A6 xrs.length c6, .int .i64 (xhid + (xplus + lplus))] 113)
  go_wp2_with fail
  have mP : (W.heap.size, p.obj) ∈ ((w6.heap.size, Pc.obj ⟨xrs, xhid + (xplus + lplus), A6, c6⟩) :: (w3.heap.size, Pc.obj ⟨lrs, lhid + lplus, A3, c3⟩) :: (W.heap.size, p.obj) :: bs : List (Nat × Obj)) := m2
  have mL : (w3.heap.size, Pc.obj ⟨lrs, lhid + lplus, A3, c3⟩) ∈ ((w6.heap.size, Pc.obj ⟨xrs, xhid + (xplus + lplus), A6, c6⟩) :: (w3.heap.size, Pc.obj ⟨lrs, lhid + lplus, A3, c3⟩) :: (W.heap.size, p.obj) :: bs : List (Nat × Obj)) := m1
  have mX : (w6.heap.size, Pc.obj ⟨xrs, xhid + (xplus + lplus), A6, c6⟩) ∈ ((w6.heap.size, Pc.obj ⟨xrs, xhid + (xplus + lplus), A6, c6⟩) :: (w3.heap.size, Pc.obj ⟨lrs, lhid + lplus, A3, c3⟩) :: (W.heap.size, p.obj) :: bs : List (Nat × Obj)) := m0
  have x00 := hE7.drew.cell0 mP
  have x01 := hE7.drew.cell1 mP
  have x10 := hE7.drew.cell0 mL
  have x11 := hE7.drew.cell1 mL
  have x20 := hE7.drew.cell0 mX
  have x21 := hE7.drew.cell1 mX
  dsimp only at x10 x11 x20 x21
  go_region_held3 (fun W' => W'.cell? ⟨W.heap.size, 0, none⟩ = some (.slice p.A p.rs.length p.c) ∧ W'.cell? ⟨W.heap.size, 1, none⟩ = some (.int .i64 (p.hid)) ∧ W'.cell? ⟨w3.heap.size, 0, none⟩ = some (.slice A3 lrs.length c3) ∧ W'.cell? ⟨w3.heap.size, 1, none⟩ = some (.int .i64 (lhid + lplus)) ∧ W'.cell? ⟨w6.heap.size, 0, none⟩ = some (.slice A6 xrs.length c6) ∧ W'.cell? ⟨w6.heap.size, 1, none⟩ = some (.int .i64 (xhid + (xplus + lplus))))
    (first | with_reducible exact ⟨x00, x01, x10, x11, x20, x21⟩ | with_reducible exact ⟨hE8.cell0 mP, hE8.cell1 mP, hE8.cell0 mL, hE8.cell1 mL, hE8.cell0 mX, hE8.cell1 mX⟩ | with_reducible exact ⟨hE9.cell0 mP, hE9.cell1 mP, hE9.cell0 mL, hE9.cell1 mL, hE9.cell0 mX, hE9.cell1 mX⟩ | with_reducible exact ⟨hE10.cell0 mP, hE10.cell1 mP, hE10.cell0 mL, hE10.cell1 mL, hE10.cell0 mX, hE10.cell1 mX⟩)
    (first
      | (go_at_call 98; clear tok; refine (knot_env hE7.drew (l := q) (r := (xl.lift (xplus + lplus))) (p := p) (u4 hq) m0 (u2 hp) k4 k3 (by omega)).mono ?_; rintro e w8 ⟨v8, rfl, hE8⟩)
      | (go_at_call 98; clear tok2; refine (knot_env hE8 (l := (xr.lift (xplus + lplus))) (r := lr.lift lplus) (p := ⟨lrs, lhid + lplus, A3, c3⟩) m2 m4 m1 k2 k1 (by show _ + lrs.length + _ ≤ _; omega)).mono ?_; rintro e w9 ⟨v9, rfl, hE9⟩)
      | (go_at_call 98; refine (knot_env hE9 (l := (Tree.node q p.rs p.hid (xl.lift (xplus + lplus)) 0)) (r := (Tree.node (xr.lift (xplus + lplus)) lrs (lhid + lplus) (lr.lift lplus) 0)) (p := ⟨xrs, xhid + (xplus + lplus), A6, c6⟩) m1 m0 m0 k5 k6 s3).mono ?_; rintro e w10 ⟨v10, rfl, hE10⟩))
  all_goals
    go_wp2
    go_ret
    exact ⟨_, v10, rfl, hE10.sub (sub_keep fun y hy => u6 hy) (fun y hy => u2 hy) (fun y hy => u3 hy), Hhcs.out, Hh8.out.1, Hh8.out.2⟩
end Go.Proofs.YteeigokkafcaaaaDoorRope
end
section
namespace Go.Proofs.YteeigokkafcaaaaDoorRope
open Go.RowKit Go.Proofs.YteeigokkafcaaaaDoorW.PrintWords Go.Proofs.YteeigokkafcaaaaDoorW.PrintMore
set_option linter.unusedSimpArgs false
set_option linter.unusedVariables false
attribute [local go_sem] run_field2 run_field0
theorem Made.mono {K : Nat → Prop} {w0 : World} {ts : List (Tree × Value)} {ps : List Pc} {bs : List (Nat × Obj)} {cs : List (Int × Int)} {lo hi lo' hi' : Nat} {e : Ending} {w' : World} (h : Made K w0 ts ps bs cs lo hi e w') (h1 : lo' ≤ lo) (h2 : hi ≤ hi') : Made K w0 ts ps bs cs lo' hi' e w' := by
  obtain ⟨t, v, he, hE, hc, a, b⟩ := h
  exact ⟨t, v, he, hE, hc, Nat.le_trans h1 a, Nat.le_trans b h2⟩
set_option maxRecDepth 100000 in
set_option maxHeartbeats 4000000 in
theorem weigh_0 {K : Nat → Prop} {w0 W : World} {ts : List (Tree × Value)} {ps : List Pc} {bs : List (Nat × Obj)} (h : Env K w0 W ts ps bs) {l r : Tree} {vl vr : Value} {p : Pc} (hl : (l, vl) ∈ ts) (hr : (r, vr) ∈ ts) (hp : p ∈ ps) (h1 : l.ht ≤ r.ht + 1) (h2 : r.ht ≤ l.ht + 1) (hsz : l.cells.length + p.rs.length + r.cells.length ≤ 1073741824) :
    Calls Tryd.prog 129 #[vl, .agg #[.slice p.A p.rs.length p.c, .int .i64 p.hid], vr] W (Made K w0 ts ps bs (l.cells ++ p.cells ++ r.cells) (1 + max l.ht r.ht) (1 + max l.ht r.ht)) := by
  have gl : l.Good 0 := (h.t _ hl).good
  have gr : r.Good 0 := (h.t _ hr).good
  have a3 := gl.ht_cells
  have a4 := gr.ht_cells
  have c1 : ¬ (((r.ht : Nat) : Int) + 1 < ((l.ht : Nat) : Int)) := by omega
  have c2 : ¬ (((l.ht : Nat) : Int) + 1 < ((r.ht : Nat) : Int)) := by omega
  have q2 : ((r.ht : Nat) : Int) ≤ 1073741824 := by omega
  have q3 : ((l.ht : Nat) : Int) ≤ 1073741824 := by omega
  go_enter Tryd.func129, Tryd.ntmps129
  go_wp2_with fail
  refine (all_env (h.box (.cells #[.slice p.A p.rs.length p.c, .int .i64 p.hid] 113)) hl).mono ?_
  rintro e w1 ⟨rfl, hE1⟩
  go_wp2_with fail
  refine (all_env hE1 hr).mono ?_
  rintro e w2 ⟨rfl, hE2⟩
  have x0 := hE2.cell0 (p := p) m0
  have x1 := hE2.cell1 (p := p) m0
  go_wp2_with fail
  refine (knot_env hE2 hl hr hp h1 h2 hsz).mono ?_
  rintro e w3 ⟨v3, rfl, hE3⟩
  go_wp2_with fail
  go_ret
  exact ⟨_, v3, rfl, hE3.sub (fun y hy => hy) (fun y hy => hy) (fun y hy => u1 hy), by rw [cells_knot]; simp only [Pc.cells], Nat.le_refl _, Nat.le_refl _⟩
theorem weigh_env {K : Nat → Prop} {w0 W : World} {ts : List (Tree × Value)} {ps : List Pc} {bs : List (Nat × Obj)} (h : Env K w0 W ts ps bs) {l r : Tree} {vl vr : Value} {p : Pc} (lo hi : Nat) (hl : (l, vl) ∈ ts) (hr : (r, vr) ∈ ts) (hp : p ∈ ps) (h1 : l.ht ≤ r.ht + 2) (h2 : r.ht ≤ l.ht + 2) (hsz : l.cells.length + p.rs.length + r.cells.length ≤ 1073741824)
    (hlo : (l.ht ≤ r.ht + 1 → r.ht ≤ l.ht + 1 → lo ≤ 1 + max l.ht r.ht) ∧ (l.ht = r.ht + 2 ∨ r.ht = l.ht + 2 → lo ≤ max l.ht r.ht)) (hhi : 1 + max l.ht r.ht ≤ hi) :
    Calls Tryd.prog 129 #[vl, .agg #[.slice p.A p.rs.length p.c, .int .i64 p.hid], vr] W (Made K w0 ts ps bs (l.cells ++ p.cells ++ r.cells) lo hi) := by
  by_cases c1 : l.ht ≤ r.ht + 1
  · by_cases c2 : r.ht ≤ l.ht + 1
    · exact (weigh_0 h hl hr hp c1 c2 hsz).mono fun e w' hm => hm.mono (hlo.1 c1 c2) hhi
    · cases r with
      | nil => exact absurd (Nat.zero_le _) c2
      | node rl rs hid rr plus =>
        have e2 : (Tree.node rl rs hid rr plus).ht = l.ht + 2 := by omega
        have hlo2 := hlo.2 (.inr e2)
        by_cases c3 : rl.ht ≤ rr.ht
        · exact (weigh_r1 h hr hl hp e2 c3 (by omega)).mono fun e w' hm => hm.mono (by omega) (by omega)
        · cases rl with
          | nil => exact absurd (Nat.zero_le _) c3
          | node xl xrs xhid xr xplus => exact (weigh_r2 h hr hl hp e2 (by omega) (by omega)).mono fun e w' hm => hm.mono (by omega) (by omega)
  · cases l with
    | nil => exact absurd (Nat.zero_le _) c1
    | node ll rs hid lr plus =>
      have e2 : (Tree.node ll rs hid lr plus).ht = r.ht + 2 := by omega
      have hlo2 := hlo.2 (.inl e2)
      by_cases c3 : lr.ht ≤ ll.ht
      · exact (weigh_l1 h hl hr hp e2 c3 (by omega)).mono fun e w' hm => hm.mono (by omega) (by omega)
      · cases lr with
        | nil => exact absurd (Nat.zero_le _) c3
        | node xl xrs xhid xr xplus => exact (weigh_l2 h hl hr hp e2 (by omega) (by omega)).mono fun e w' hm => hm.mono (by omega) (by omega)
def JoinTo (n : Nat) : Prop := ∀ {K : Nat → Prop} {w0 W : World} {ts : List (Tree × Value)} {ps : List Pc} {bs : List (Nat × Obj)} (h : Env K w0 W ts ps bs) {l r : Tree} {vl vr : Value} {p : Pc} (hl : (l, vl) ∈ ts) (hr : (r, vr) ∈ ts) (hp : p ∈ ps) (hn : l.size + r.size ≤ n) (hsz : l.cells.length + p.rs.length + r.cells.length ≤ 1073741824), Calls Tryd.prog 102 #[vl, .agg #[.slice p.A p.rs.length p.c, .int .i64 p.hid], vr] W (Made K w0 ts ps bs (l.cells ++ p.cells ++ r.cells) (max l.ht r.ht) (max l.ht r.ht + 1))
structure JoinW (n : Nat) (_ : Unit) (t6 : Tree) (lrs : List Int) (p : Pc) (H : Nat) (f : Tree) : Prop where
  a : f.ht ≤ t6.ht + 2
  b : t6.ht ≤ f.ht + 2
  c : f.cells.length + lrs.length + t6.cells.length ≤ 1073741824
  up : 1 + max f.ht t6.ht ≤ H + 1
  h2 : f.ht ≤ t6.ht + 1 → t6.ht ≤ f.ht + 1 → H ≤ 1 + max f.ht t6.ht
  h3 : t6.ht = f.ht + 2 ∨ f.ht = t6.ht + 2 → H ≤ max f.ht t6.ht
namespace JoinW
variable {n : Nat} {u : Unit} {t6 f : Tree} {lrs : List Int} {p : Pc} {H : Nat} (h : JoinW n u t6 lrs p H f)
include h
theorem lo : (f.ht ≤ t6.ht + 1 → t6.ht ≤ f.ht + 1 → H ≤ 1 + max f.ht t6.ht) ∧ (f.ht = t6.ht + 2 ∨ t6.ht = f.ht + 2 → H ≤ max f.ht t6.ht) := ⟨h.h2, fun c => h.h3 c.symm⟩
theorem hi : 1 + max f.ht t6.ht ≤ H + 1 := h.up
theorem c' : t6.cells.length + lrs.length + f.cells.length ≤ 1073741824 := by have := h.c; omega
theorem lo' : (t6.ht ≤ f.ht + 1 → f.ht ≤ t6.ht + 1 → H ≤ 1 + max t6.ht f.ht) ∧ (t6.ht = f.ht + 2 ∨ f.ht = t6.ht + 2 → H ≤ max t6.ht f.ht) := ⟨fun a b => by have := h.h2 b a; omega, fun c => by have := h.h3 c; omega⟩
theorem hi' : 1 + max t6.ht f.ht ≤ H + 1 := by have := h.up; omega
end JoinW
set_option maxRecDepth 100000 in
set_option maxHeartbeats 4000000 in
theorem join_l {n : Nat} (ih : JoinTo n) {K : Nat → Prop} {w0 W : World} {ts : List (Tree × Value)} {ps : List Pc} {bs : List (Nat × Obj)} (h : Env K w0 W ts ps bs) {ll lr q : Tree} {lrs : List Int} {lhid lplus : Int} {vl vq : Value} {p : Pc} (hl : ((Tree.node ll lrs lhid lr lplus), vl) ∈ ts) (hq : (q, vq) ∈ ts) (hp : p ∈ ps) (hn : (Tree.node ll lrs lhid lr lplus).size + q.size ≤ n + 1) (hh : q.ht + 1 < (Tree.node ll lrs lhid lr lplus).ht) (hsz : (Tree.node ll lrs lhid lr lplus).cells.length + p.rs.length + q.cells.length ≤ 1073741824) :
    Calls Tryd.prog 102 #[vl, .agg #[.slice p.A p.rs.length p.c, .int .i64 p.hid], vq] W (Made K w0 ts ps bs ((Tree.node ll lrs lhid lr lplus).cells ++ p.cells ++ q.cells) (Tree.node ll lrs lhid lr lplus).ht ((Tree.node ll lrs lhid lr lplus).ht + 1)) := by
  have gl : (Tree.node ll lrs lhid lr lplus).Good 0 := (h.t _ hl).good
  have gq : q.Good 0 := (h.t _ hq).good
  have a1 := gl.hts
  have a3 := gq.ht_cells
  have a8 := gl.ht_cells
  have a4 := len_open ll lrs lhid lr lplus
  have a6 : (Tree.node ll lrs lhid lr lplus).ht = 1 + max ll.ht lr.ht := rfl
  have a7 : (Tree.node ll lrs lhid lr lplus).size = ll.size + 1 + lr.size := rfl
  have c1 : ((q.ht : Nat) : Int) + 1 < (((Tree.node ll lrs lhid lr lplus).ht : Nat) : Int) := by omega
  have c3 : ¬ ((((Tree.node ll lrs lhid lr lplus).ht : Nat) : Int) + 1 < ((q.ht : Nat) : Int)) := by omega
  have q2 : ((q.ht : Nat) : Int) ≤ 1073741824 := by omega
  have q3 : (((Tree.node ll lrs lhid lr lplus).ht : Nat) : Int) ≤ 1073741826 := by omega
  have n1 : (lr.lift lplus).size + q.size ≤ n := by rw [Tree.size_lift]; omega
  have s1 : (lr.lift lplus).cells.length + p.rs.length + q.cells.length ≤ 1073741824 := by rw [len_lift]; omega
  have hw : ∀ t6 : Tree, t6.cells = (lr.lift lplus).cells ++ p.cells ++ q.cells → max (lr.lift lplus).ht q.ht ≤ t6.ht → t6.ht ≤ max (lr.lift lplus).ht q.ht + 1 → JoinW n () t6 lrs p (Tree.node ll lrs lhid lr lplus).ht (ll.lift lplus) := by
    intro t6 e1 e2 e3
    have e4 : t6.cells.length = lr.cells.length + p.rs.length + q.cells.length := by rw [e1]; simp [Pc.cells, len_lift]; omega
    rw [Tree.ht_lift] at e2 e3
    refine ⟨by rw [Tree.ht_lift]; omega, by rw [Tree.ht_lift]; omega, by rw [len_lift]; omega, by rw [Tree.ht_lift]; omega, fun h3 => ?_, by rw [Tree.ht_lift]; omega⟩
    rw [Tree.ht_lift] at h3 ⊢
    omega
  have hcs : ∀ cs : List (Int × Int), cs = (lr.lift lplus).cells ++ p.cells ++ q.cells → (ll.lift lplus).cells ++ (Pc.cells ⟨lrs, lhid + lplus, none, 0⟩) ++ cs = (Tree.node ll lrs lhid lr lplus).cells ++ p.cells ++ q.cells := by
    rintro _ rfl
    rw [cells_open ll lrs lhid lr lplus]
    simp only [Pc.cells, List.append_assoc]
  have HW := Lib.hid hw
  have HCS := Lib.hid hcs
  clear hw hcs a1 a3 a8 a4 a6 a7 hh hn
  have tok : True := trivial
  go_enter Tryd.func102, Tryd.ntmps102
  go_wp2_with fail
  refine (all_env (h.box (.cells #[.slice p.A p.rs.length p.c, .int .i64 p.hid] 113)) hl).mono ?_
  rintro e w1 ⟨rfl, hE1⟩
  go_wp2_with fail
  refine (all_env hE1 hq).mono ?_
  rintro e w2 ⟨rfl, hE2⟩
  go_wp2_with fail
  refine (open_env hE2 hl).mono ?_
  rintro e w3 ⟨v1, v2, A3, c3, rfl, hE3⟩
  have hE5 := hE3.box (.cells #[.slice A3 lrs.length c3, .int .i64 (lhid + lplus)] 113)
  go_wp2_with fail
  have mP : (W.heap.size, p.obj) ∈ ((w3.heap.size, Pc.obj ⟨lrs, lhid + lplus, A3, c3⟩) :: (W.heap.size, p.obj) :: bs : List (Nat × Obj)) := m1
  have mL : (w3.heap.size, Pc.obj ⟨lrs, lhid + lplus, A3, c3⟩) ∈ ((w3.heap.size, Pc.obj ⟨lrs, lhid + lplus, A3, c3⟩) :: (W.heap.size, p.obj) :: bs : List (Nat × Obj)) := m0
  have x00 := hE5.drew.cell0 mP
  have x01 := hE5.drew.cell1 mP
  have x10 := hE5.drew.cell0 mL
  have x11 := hE5.drew.cell1 mL
  dsimp only at x10 x11
  go_region_held3 (fun W' => W'.cell? ⟨W.heap.size, 0, none⟩ = some (.slice p.A p.rs.length p.c) ∧ W'.cell? ⟨W.heap.size, 1, none⟩ = some (.int .i64 (p.hid)) ∧ W'.cell? ⟨w3.heap.size, 0, none⟩ = some (.slice A3 lrs.length c3) ∧ W'.cell? ⟨w3.heap.size, 1, none⟩ = some (.int .i64 (lhid + lplus)))
    (first | with_reducible exact ⟨x00, x01, x10, x11⟩ | with_reducible exact ⟨hE6.cell0 mP, hE6.cell1 mP, hE6.cell0 mL, hE6.cell1 mL⟩ | with_reducible exact ⟨hE7.cell0 mP, hE7.cell1 mP, hE7.cell0 mL, hE7.cell1 mL⟩)
    (first
      | (go_at_call 102; clear tok; refine (ih hE5.drew (l := lr.lift lplus) (r := q) (p := p) m1 (u2 hq) (u1 hp) n1 s1).mono ?_; rintro e w6 ⟨t6, v6, rfl, hE6, hc6, hlo6, hhi6⟩; have HT := Lib.hid (HW.out t6 hc6 hlo6 hhi6); have HC6 := Lib.hid hc6; clear hc6 hlo6 hhi6)
      | (go_at_call 129; refine (weigh_env hE6 (l := ll.lift lplus) (r := t6) (p := ⟨lrs, lhid + lplus, A3, c3⟩) (Tree.node ll lrs lhid lr lplus).ht ((Tree.node ll lrs lhid lr lplus).ht + 1) m1 m0 m0 HT.out.a HT.out.b HT.out.c HT.out.lo HT.out.hi).mono ?_; rintro e w7 ⟨t7, v7, rfl, hE7, hc7, hlo7, hhi7⟩; have HC7 := Lib.hid hc7; have HLO := Lib.hid hlo7; have HHI := Lib.hid hhi7; clear hc7 hlo7 hhi7))
  all_goals
    go_wp2
    go_ret
    exact ⟨t7, v7, rfl, hE7.sub (sub_keep fun y hy => u3 hy) (fun y hy => u1 hy) (fun y hy => u2 hy), HC7.out.trans (HCS.out _ HC6.out), HLO.out, HHI.out⟩
set_option maxRecDepth 100000 in
set_option maxHeartbeats 4000000 in
theorem join_r {n : Nat} (ih : JoinTo n) {K : Nat → Prop} {w0 W : World} {ts : List (Tree × Value)} {ps : List Pc} {bs : List (Nat × Obj)} (h : Env K w0 W ts ps bs) {ll lr q : Tree} {lrs : List Int} {lhid lplus : Int} {vl vq : Value} {p : Pc} (hl : ((Tree.node ll lrs lhid lr lplus), vl) ∈ ts) (hq : (q, vq) ∈ ts) (hp : p ∈ ps) (hn : (Tree.node ll lrs lhid lr lplus).size + q.size ≤ n + 1) (hh : q.ht + 1 < (Tree.node ll lrs lhid lr lplus).ht) (hsz : (Tree.node ll lrs lhid lr lplus).cells.length + p.rs.length + q.cells.length ≤ 1073741824) :
    Calls Tryd.prog 102 #[vq, .agg #[.slice p.A p.rs.length p.c, .int .i64 p.hid], vl] W (Made K w0 ts ps bs (q.cells ++ p.cells ++ (Tree.node ll lrs lhid lr lplus).cells) (Tree.node ll lrs lhid lr lplus).ht ((Tree.node ll lrs lhid lr lplus).ht + 1)) := by
  have gl : (Tree.node ll lrs lhid lr lplus).Good 0 := (h.t _ hl).good
  have gq : q.Good 0 := (h.t _ hq).good
  have a1 := gl.hts
  have a3 := gq.ht_cells
  have a8 := gl.ht_cells
  have a4 := len_open ll lrs lhid lr lplus
  have a6 : (Tree.node ll lrs lhid lr lplus).ht = 1 + max ll.ht lr.ht := rfl
  have a7 : (Tree.node ll lrs lhid lr lplus).size = ll.size + 1 + lr.size := rfl
  have c1 : ((q.ht : Nat) : Int) + 1 < (((Tree.node ll lrs lhid lr lplus).ht : Nat) : Int) := by omega
  have c3 : ¬ ((((Tree.node ll lrs lhid lr lplus).ht : Nat) : Int) + 1 < ((q.ht : Nat) : Int)) := by omega
  have q2 : ((q.ht : Nat) : Int) ≤ 1073741824 := by omega
  have q3 : (((Tree.node ll lrs lhid lr lplus).ht : Nat) : Int) ≤ 1073741826 := by omega
  have n1 : q.size + (ll.lift lplus).size ≤ n := by rw [Tree.size_lift]; omega
  have s1 : q.cells.length + p.rs.length + (ll.lift lplus).cells.length ≤ 1073741824 := by rw [len_lift]; omega
  have hw : ∀ t6 : Tree, t6.cells = q.cells ++ p.cells ++ (ll.lift lplus).cells → max q.ht (ll.lift lplus).ht ≤ t6.ht → t6.ht ≤ max q.ht (ll.lift lplus).ht + 1 → JoinW n () t6 lrs p (Tree.node ll lrs lhid lr lplus).ht (lr.lift lplus) := by
    intro t6 e1 e2 e3
    have e4 : t6.cells.length = ll.cells.length + p.rs.length + q.cells.length := by rw [e1]; simp [Pc.cells, len_lift]; omega
    rw [Tree.ht_lift] at e2 e3
    refine ⟨by rw [Tree.ht_lift]; omega, by rw [Tree.ht_lift]; omega, by rw [len_lift]; omega, by rw [Tree.ht_lift]; omega, fun h3 => ?_, by rw [Tree.ht_lift]; omega⟩
    rw [Tree.ht_lift] at h3 ⊢
    omega
  have hcs : ∀ cs : List (Int × Int), cs = q.cells ++ p.cells ++ (ll.lift lplus).cells → cs ++ (Pc.cells ⟨lrs, lhid + lplus, none, 0⟩) ++ (lr.lift lplus).cells = q.cells ++ p.cells ++ (Tree.node ll lrs lhid lr lplus).cells := by
    rintro _ rfl
    rw [cells_open ll lrs lhid lr lplus]
    simp only [Pc.cells, List.append_assoc]
  have HW := Lib.hid hw
  have HCS := Lib.hid hcs
  clear hw hcs a1 a3 a8 a4 a6 a7 hh hn
  have tok : True := trivial
  go_enter Tryd.func102, Tryd.ntmps102
  go_wp2_with fail
  refine (all_env (h.box (.cells #[.slice p.A p.rs.length p.c, .int .i64 p.hid] 113)) hq).mono ?_
  rintro e w1 ⟨rfl, hE1⟩
  go_wp2_with fail
  refine (all_env hE1 hl).mono ?_
  rintro e w2 ⟨rfl, hE2⟩
  go_wp2_with fail
  refine (open_env hE2 hl).mono ?_
  rintro e w3 ⟨v1, v2, A3, c3, rfl, hE3⟩
  have hE5 := hE3.box (.cells #[.slice A3 lrs.length c3, .int .i64 (lhid + lplus)] 113)
  go_wp2_with fail
  have mP : (W.heap.size, p.obj) ∈ ((w3.heap.size, Pc.obj ⟨lrs, lhid + lplus, A3, c3⟩) :: (W.heap.size, p.obj) :: bs : List (Nat × Obj)) := m1
  have mL : (w3.heap.size, Pc.obj ⟨lrs, lhid + lplus, A3, c3⟩) ∈ ((w3.heap.size, Pc.obj ⟨lrs, lhid + lplus, A3, c3⟩) :: (W.heap.size, p.obj) :: bs : List (Nat × Obj)) := m0
  have x00 := hE5.drew.cell0 mP
  have x01 := hE5.drew.cell1 mP
  have x10 := hE5.drew.cell0 mL
  have x11 := hE5.drew.cell1 mL
  dsimp only at x10 x11
  go_region_held3 (fun W' => W'.cell? ⟨W.heap.size, 0, none⟩ = some (.slice p.A p.rs.length p.c) ∧ W'.cell? ⟨W.heap.size, 1, none⟩ = some (.int .i64 (p.hid)) ∧ W'.cell? ⟨w3.heap.size, 0, none⟩ = some (.slice A3 lrs.length c3) ∧ W'.cell? ⟨w3.heap.size, 1, none⟩ = some (.int .i64 (lhid + lplus)))
    (first | with_reducible exact ⟨x00, x01, x10, x11⟩ | with_reducible exact ⟨hE6.cell0 mP, hE6.cell1 mP, hE6.cell0 mL, hE6.cell1 mL⟩ | with_reducible exact ⟨hE7.cell0 mP, hE7.cell1 mP, hE7.cell0 mL, hE7.cell1 mL⟩)
    (first
      | (go_at_call 102; clear tok; refine (ih hE5.drew (l := q) (r := ll.lift lplus) (p := p) (u2 hq) m0 (u1 hp) n1 s1).mono ?_; rintro e w6 ⟨t6, v6, rfl, hE6, hc6, hlo6, hhi6⟩; have HT := Lib.hid (HW.out t6 hc6 hlo6 hhi6); have HC6 := Lib.hid hc6; clear hc6 hlo6 hhi6)
      | (go_at_call 129; refine (weigh_env hE6 (l := t6) (r := lr.lift lplus) (p := ⟨lrs, lhid + lplus, A3, c3⟩) (Tree.node ll lrs lhid lr lplus).ht ((Tree.node ll lrs lhid lr lplus).ht + 1) m0 m2 m0 HT.out.b HT.out.a HT.out.c' HT.out.lo' HT.out.hi').mono ?_; rintro e w7 ⟨t7, v7, rfl, hE7, hc7, hlo7, hhi7⟩; have HC7 := Lib.hid hc7; have HLO := Lib.hid hlo7; have HHI := Lib.hid hhi7; clear hc7 hlo7 hhi7))
  all_goals
    go_wp2
    go_ret
    exact ⟨t7, v7, rfl, hE7.sub (sub_keep fun y hy => u3 hy) (fun y hy => u1 hy) (fun y hy => u2 hy), HC7.out.trans (HCS.out _ HC6.out), HLO.out, HHI.out⟩
set_option maxRecDepth 100000 in
set_option maxHeartbeats 4000000 in
theorem join_0 {K : Nat → Prop} {w0 W : World} {ts : List (Tree × Value)} {ps : List Pc} {bs : List (Nat × Obj)} (h : Env K w0 W ts ps bs) {l r : Tree} {vl vr : Value} {p : Pc} (hl : (l, vl) ∈ ts) (hr : (r, vr) ∈ ts) (hp : p ∈ ps) (h1 : l.ht ≤ r.ht + 1) (h2 : r.ht ≤ l.ht + 1) (hsz : l.cells.length + p.rs.length + r.cells.length ≤ 1073741824) :
    Calls Tryd.prog 102 #[vl, .agg #[.slice p.A p.rs.length p.c, .int .i64 p.hid], vr] W (Made K w0 ts ps bs (l.cells ++ p.cells ++ r.cells) (1 + max l.ht r.ht) (1 + max l.ht r.ht)) := by
  have gl : l.Good 0 := (h.t _ hl).good
  have gr : r.Good 0 := (h.t _ hr).good
  have a3 := gl.ht_cells
  have a4 := gr.ht_cells
  have c1 : ¬ (((r.ht : Nat) : Int) + 1 < ((l.ht : Nat) : Int)) := by omega
  have c2 : ¬ (((l.ht : Nat) : Int) + 1 < ((r.ht : Nat) : Int)) := by omega
  have q2 : ((r.ht : Nat) : Int) ≤ 1073741824 := by omega
  have q3 : ((l.ht : Nat) : Int) ≤ 1073741824 := by omega
  go_enter Tryd.func102, Tryd.ntmps102
  go_wp2_with fail
  refine (all_env (h.box (.cells #[.slice p.A p.rs.length p.c, .int .i64 p.hid] 113)) hl).mono ?_
  rintro e w1 ⟨rfl, hE1⟩
  go_wp2_with fail
  refine (all_env hE1 hr).mono ?_
  rintro e w2 ⟨rfl, hE2⟩
  have x0 := hE2.cell0 (p := p) m0
  have x1 := hE2.cell1 (p := p) m0
  go_wp2_with fail
  refine (knot_env hE2 hl hr hp h1 h2 hsz).mono ?_
  rintro e w3 ⟨v3, rfl, hE3⟩
  go_wp2_with fail
  go_ret
  exact ⟨_, v3, rfl, hE3.sub (fun y hy => hy) (fun y hy => hy) (fun y hy => u1 hy), by rw [cells_knot]; simp only [Pc.cells], Nat.le_refl _, Nat.le_refl _⟩
theorem size_zero {t : Tree} (h : t.size = 0) : t.ht = 0 := by have := Tree.ht_le t; omega
theorem join_all : ∀ n, JoinTo n
  | 0 => by
    intro h l r vl vr p hl hr hp hn hsz
    have h1 := size_zero (t := l) (by omega)
    have h2 := size_zero (t := r) (by omega)
    exact (join_0 h hl hr hp (by omega) (by omega) hsz).mono fun e w' hm => hm.mono (by omega) (by omega)
  | n + 1 => by
    intro h l r vl vr p hl hr hp hn hsz
    by_cases c1 : r.ht + 1 < l.ht
    · cases l with
      | nil => exact absurd c1 (Nat.not_lt_zero _)
      | node ll lrs lhid lr lplus => exact (join_l (join_all n) h hl hr hp hn c1 hsz).mono fun e w' hm => hm.mono (by omega) (by omega)
    · by_cases c2 : l.ht + 1 < r.ht
      · cases r with
        | nil => exact absurd c2 (Nat.not_lt_zero _)
        | node ll lrs lhid lr lplus => exact (join_r (join_all n) h hr hl hp (by omega) c2 (by omega)).mono fun e w' hm => hm.mono (by omega) (by omega)
      · exact (join_0 h hl hr hp (by omega) (by omega) hsz).mono fun e w' hm => hm.mono (by omega) (by omega)
theorem join_env {K : Nat → Prop} {w0 W : World} {ts : List (Tree × Value)} {ps : List Pc} {bs : List (Nat × Obj)} (h : Env K w0 W ts ps bs) {l r : Tree} {vl vr : Value} {p : Pc} (hl : (l, vl) ∈ ts) (hr : (r, vr) ∈ ts) (hp : p ∈ ps) (hsz : l.cells.length + p.rs.length + r.cells.length ≤ 1073741824) : Calls Tryd.prog 102 #[vl, .agg #[.slice p.A p.rs.length p.c, .int .i64 p.hid], vr] W (Made K w0 ts ps bs (l.cells ++ p.cells ++ r.cells) (max l.ht r.ht) (max l.ht r.ht + 1)) :=
  join_all _ h hl hr hp (Nat.le_refl _) hsz
end Go.Proofs.YteeigokkafcaaaaDoorRope
end
section
namespace Go.Proofs.YteeigokkafcaaaaDoorRope
open Go.RowKit Go.Proofs.YteeigokkafcaaaaDoorW.PrintWords Go.Proofs.YteeigokkafcaaaaDoorW.PrintMore
set_option linter.unusedSimpArgs false
set_option linter.unusedVariables false
attribute [local go_sem] run_field2 run_field0
def Kx (K : Nat → Prop) (n : Nat) : Nat → Prop := fun k => (K k ∧ k < n) ∨ n + 1 ≤ k
theorem Kx.self (K : Nat → Prop) (n : Nat) : ¬ Kx K n n := fun h => h.elim (fun h => Nat.lt_irrefl _ h.2) (fun h => by omega)
section
variable {K : Nat → Prop} {w0 W W' : World} {ts ts' : List (Tree × Value)} {ps ps' : List Pc} {bs bs' : List (Nat × Obj)}
theorem PieceIn.bound {p : Pc} (h : PieceIn K W p) : PieceIn (fun k => K k ∧ k < W.heap.size) W p := by
  refine ⟨h.ra, fun ad e => ⟨h.k ad e, ?_⟩, h.cap, h.ne, h.h⟩
  obtain ⟨rs, hid, A, c⟩ := p
  have hz : 0 < rs.length := by
    have := h.ne
    cases rs with
    | nil => exact absurd rfl this
    | cons x l => simp
  obtain ⟨ad', e', hcell⟩ := h.ra.2.2 hz
  obtain ⟨x, hx⟩ : ∃ x, rs[0]? = some x := ⟨rs[0], List.getElem?_eq_getElem hz⟩
  obtain ⟨cs, hl, hk, hq⟩ := hcell 0 x hx
  have hk' : cs = [.int .i32 x] := hk
  have h0 := hq 0 (.int .i32 x) (by rw [hk']; rfl)
  have := World.block_lt_of_cell? W _ h0
  rw [add_block] at this
  have e2 : A = some ad := e
  have e3 : A = some ad' := e'
  rw [e2] at e3
  injection e3 with e3
  rw [e3]
  exact this
theorem PieceIn.mono {K' : Nat → Prop} {p : Pc} (h : PieceIn K W p) (hK : ∀ k, K k → K' k) : PieceIn K' W p := ⟨h.ra, fun ad e => hK _ (h.k ad e), h.cap, h.ne, h.h⟩
theorem TreeIn.bound {t : Tree} {v : Value} (h : TreeIn K W t v) : TreeIn (fun k => K k ∧ k < W.heap.size) W t v := ⟨h.rep.bound h.good, h.good⟩
theorem TreeIn.mono {K' : Nat → Prop} {t : Tree} {v : Value} (h : TreeIn K W t v) (hK : ∀ k, K k → K' k) : TreeIn K' W t v := ⟨h.rep.mono hK, h.good⟩
theorem Env.excl (h : Env K w0 W ts ps bs) (o : Obj) : Env (Kx K W.heap.size) w0 (W.alloc o) ts ps ((W.heap.size, o) :: bs) := by
  have hb := (Below.refl W.heap.size W).alloc (Nat.le_refl _) o
  have h' := h.box o
  refine ⟨fun x hx => ((h.t x hx).bound.mono (fun k hk => .inl hk)).below hb, fun x hx => ((h.p x hx).bound.mono (fun k hk => .inl hk)).below hb, h'.b, h'.bel, fun k hk => .inr (by simpa using hk)⟩
theorem Env.back {n : Nat} (h : Env (Kx K n) w0 W ts ps bs) (hu : ∀ k, n ≤ k → K k) : Env K w0 W ts ps bs := by
  have hK : ∀ k, Kx K n k → K k := fun k hk => hk.elim (fun h => h.1) (fun h => hu k (by omega))
  exact ⟨fun x hx => (h.t x hx).mono hK, fun x hx => (h.p x hx).mono hK, h.b, h.bel, fun k hk => hK k (h.up k hk)⟩
theorem PieceIn.set2 {p : Pc} {P : Nat} {u1 u2 : Value} (h : PieceIn K W p) (hP : ¬ K P) : PieceIn K ((W.setCell ⟨P, 0, none⟩ u1).setCell ⟨P, 1, none⟩ u2) p :=
  ⟨RunesAt.set2 h.ra (fun ad e e2 => hP (e2 ▸ h.k ad e)), h.k, h.cap, h.ne, h.h⟩
theorem Env.set2 {P : Nat} {u1 u2 : Value} (h : Env K w0 W ts ps bs) (hP : ¬ K P) (hl : w0.heap.size ≤ P) (hbs : ∀ x ∈ bs', x ∈ bs ∧ x.1 ≠ P) : Env K w0 ((W.setCell ⟨P, 0, none⟩ u1).setCell ⟨P, 1, none⟩ u2) ts ps bs' :=
  ⟨fun x hx => ⟨Rep.set2 (h.t x hx).rep hP, (h.t x hx).good⟩, fun x hx => (h.p x hx).set2 hP, fun x hx => ((Below.heap_setCell _ _ _ _ (hbs x hx).2).trans (Below.heap_setCell _ _ _ _ (hbs x hx).2)).trans (h.b x (hbs x hx).1), below_set2 h.bel hl, fun k hk => h.up k (by simpa [World.setCell] using hk)⟩
theorem froz2 {W : World} {g : Nat} {a b : Value} (h : W.heap[g]? = some (.cells #[a, b] 113 (0, 0))) : W.frozen? ⟨g, 0, none⟩ = false ∧ W.frozen? ⟨g, 1, none⟩ = false := by
  simp [World.frozen?, h]
end
def Popped (K : Nat → Prop) (w0 : World) (ts : List (Tree × Value)) (ps : List Pc) (bs : List (Nat × Obj)) (cs : List (Int × Int)) (e : Ending) (w' : World) : Prop := ∃ t v q, e = .returned (.tuple #[v, .agg #[.slice q.A q.rs.length q.c, .int .i64 q.hid]]) ∧ Env K w0 w' ((t, v) :: ts) (q :: ps) bs ∧ t.cells ++ q.cells = cs
def PopTo (n : Nat) : Prop := ∀ {K : Nat → Prop} {w0 W : World} {ts : List (Tree × Value)} {ps : List Pc} {bs : List (Nat × Obj)} (h : Env K w0 W ts ps bs) {l r : Tree} {rs : List Int} {hid plus : Int} {v : Value} (hm : (Tree.node l rs hid r plus, v) ∈ ts) (hn : r.size ≤ n) (hsz : (Tree.node l rs hid r plus).cells.length ≤ 1073741824), Calls Tryd.prog 103 #[v] W (Popped K w0 ts ps bs (Tree.node l rs hid r plus).cells)
set_option maxRecDepth 100000 in
set_option maxHeartbeats 4000000 in
theorem pop_nil {K : Nat → Prop} {w0 W : World} {ts : List (Tree × Value)} {ps : List Pc} {bs : List (Nat × Obj)} (h : Env K w0 W ts ps bs) {l : Tree} {rs : List Int} {hid plus : Int} {v : Value} (hm : (Tree.node l rs hid .nil plus, v) ∈ ts) : Calls Tryd.prog 103 #[v] W (Popped K w0 ts ps bs (Tree.node l rs hid .nil plus).cells) := by
  have hX := h.excl (.cells #[.slice none 0 0, .int .i64 0] 113)
  have hcs : (l.lift plus).cells ++ (Pc.cells ⟨rs, hid + plus, none, 0⟩) = (Tree.node l rs hid .nil plus).cells := by rw [cells_open]; simp [Pc.cells, Tree.lift, Tree.cells]
  have HCS := Lib.hid hcs
  clear hcs
  go_enter Tryd.func103, Tryd.ntmps103
  go_wp2_with fail
  refine (open_env hX hm).mono ?_
  rintro e w3 ⟨v1, v2, A3, c3, rfl, hE3⟩
  obtain rfl : v2 = .pointer none := (hE3.t _ m1).rep
  obtain ⟨z0, z1⟩ := cells2 (hE3.b _ m0)
  obtain ⟨f0, f1⟩ := froz2 (hE3.b _ m0)
  have lP := hE3.lt m0
  have hbx := hE3.idle (.cells #[.slice A3 rs.length c3, .int .i64 (hid + plus)] 113)
  go_wp2_with fail
  go_region
  all_goals
    go_wp2
    have hss := of_set2 (u1 := .slice A3 rs.length c3) (u2 := .int .i64 (hid + plus)) z0 z1
    have hbl := ((Below.refl _ ((w3.setCell ⟨W.heap.size, 0, none⟩ (.slice A3 rs.length c3)).setCell ⟨W.heap.size, 1, none⟩ (.int .i64 (hid + plus)))).alloc (Nat.le_refl _) (.cells #[.slice A3 rs.length c3, .int .i64 (hid + plus)] 113)).drew
    have t0 := bcell hbl hss.1
    have t1 := bcell hbl hss.2
    have hF := ((hE3.set2 (u1 := .slice A3 rs.length c3) (u2 := .int .i64 (hid + plus)) (Kx.self K _) h.bel.size (bs' := bs) (fun x hx => ⟨u1 hx, Nat.ne_of_lt (new_lt (h.b x hx))⟩)).below hbl).back h.up
    exact bodyPost_ret (v := .tuple #[v1, .agg #[.slice A3 rs.length c3, .int .i64 (hid + plus)]]) (by simp [results, Tryd.results103, go_sem, t0, t1]) rfl ⟨_, v1, ⟨rs, hid + plus, A3, c3⟩, rfl, hF.sub (sub_keep fun y hy => u1 hy) (fun y hy => hy) (fun y hy => hy), HCS.out⟩
set_option maxRecDepth 100000 in
set_option maxHeartbeats 4000000 in
theorem pop_node {n : Nat} (ih : PopTo n) {K : Nat → Prop} {w0 W : World} {ts : List (Tree × Value)} {ps : List Pc} {bs : List (Nat × Obj)} (h : Env K w0 W ts ps bs) {l xl xr : Tree} {rs xrs : List Int} {hid plus xhid xplus : Int} {v : Value} (hm : ((Tree.node l rs hid (Tree.node xl xrs xhid xr xplus) plus), v) ∈ ts) (hn : (Tree.node xl xrs xhid xr xplus).size ≤ n + 1) (hsz : (Tree.node l rs hid (Tree.node xl xrs xhid xr xplus) plus).cells.length ≤ 1073741824) : Calls Tryd.prog 103 #[v] W (Popped K w0 ts ps bs (Tree.node l rs hid (Tree.node xl xrs xhid xr xplus) plus).cells) := by
  have hX := h.excl (.cells #[.slice none 0 0, .int .i64 0] 113)
  have a4 := len_open l rs hid (Tree.node xl xrs xhid xr xplus) plus
  have a5 := len_open xl xrs xhid xr xplus
  have a6 := len_open xl xrs xhid xr (xplus + plus)
  have a7 : (Tree.node xl xrs xhid xr xplus).size = xl.size + 1 + xr.size := rfl
  have n1 : xr.size ≤ n := by omega
  have s1 : (Tree.node xl xrs xhid xr (xplus + plus)).cells.length ≤ 1073741824 := by omega
  have hs2 : ∀ (t5 : Tree) (q5 : Pc), t5.cells ++ q5.cells = (Tree.node xl xrs xhid xr (xplus + plus)).cells → (l.lift plus).cells.length + rs.length + t5.cells.length ≤ 1073741824 := by
    intro t5 q5 e
    have e1 := congrArg List.length e
    rw [List.length_append] at e1
    rw [len_lift]
    omega
  have hcs : ∀ (t5 : Tree) (q5 : Pc) (cs : List (Int × Int)), t5.cells ++ q5.cells = (Tree.node xl xrs xhid xr (xplus + plus)).cells → cs = (l.lift plus).cells ++ (Pc.cells ⟨rs, hid + plus, none, 0⟩) ++ t5.cells → cs ++ q5.cells = (Tree.node l rs hid (Tree.node xl xrs xhid xr xplus) plus).cells := by
    rintro t5 q5 _ e1 rfl
    rw [cells_open l rs hid, show (Tree.node xl xrs xhid xr xplus).lift plus = .node xl xrs xhid xr (xplus + plus) from rfl, ← e1]
    simp only [Pc.cells, List.append_assoc]
  have HCS := Lib.hid hcs
  have HS2 := Lib.hid hs2
  clear hcs hs2 a4 a5 a6 a7 hn
  go_enter Tryd.func103, Tryd.ntmps103
  go_wp2_with fail
  refine (open_env hX hm).mono ?_
  rintro e w3 ⟨v1, v2, A3, c3, rfl, hE3⟩
  obtain ⟨pa, _, _, _, _, rfl, _⟩ := (show Rep (Kx K W.heap.size) w3 (Tree.node xl xrs xhid xr (xplus + plus)) v2 from (hE3.t _ m1).rep)
  have hE4 := hE3.box (.cells #[.slice A3 rs.length c3, .int .i64 (hid + plus)] 113)
  go_wp2_with fail
  refine (ih hE4 (l := xl) (r := xr) (rs := xrs) (hid := xhid) (plus := xplus + plus) m1 n1 s1).mono ?_
  rintro e w5 ⟨t5, v5, q5, rfl, hE5, hc5⟩
  have S2 := HS2.out t5 q5 hc5
  have HC5 := Lib.hid hc5
  clear hc5 HS2
  have hE6 := hE5.box (.cells #[.slice q5.A q5.rs.length q5.c, .int .i64 q5.hid] 113)
  go_wp2_with fail
  have mL : (w3.heap.size, Pc.obj ⟨rs, hid + plus, A3, c3⟩) ∈ ((w5.heap.size, Pc.obj q5) :: (w3.heap.size, Pc.obj ⟨rs, hid + plus, A3, c3⟩) :: (W.heap.size, .cells #[.slice none 0 0, .int .i64 0] 113 (0, 0)) :: bs : List (Nat × Obj)) := m1
  have mQ : (w5.heap.size, Pc.obj q5) ∈ ((w5.heap.size, Pc.obj q5) :: (w3.heap.size, Pc.obj ⟨rs, hid + plus, A3, c3⟩) :: (W.heap.size, .cells #[.slice none 0 0, .int .i64 0] 113 (0, 0)) :: bs : List (Nat × Obj)) := m0
  have lP5 : W.heap.size < w5.heap.size := hE5.lt m1
  have lP3 : W.heap.size < w3.heap.size := hE3.lt m0
  have x00 := hE6.drew.cell0 mL
  have x01 := hE6.drew.cell1 mL
  have x10 := hE6.drew.cell0 mQ
  have x11 := hE6.drew.cell1 mQ
  dsimp only at x00 x01
  have nP3 : W.heap.size ≠ w3.heap.size := Nat.ne_of_lt lP3
  have nP5 : W.heap.size ≠ w5.heap.size := Nat.ne_of_lt lP5
  go_region_held3 (fun W' => W'.cell? ⟨w3.heap.size, 0, none⟩ = some (.slice A3 rs.length c3) ∧ W'.cell? ⟨w3.heap.size, 1, none⟩ = some (.int .i64 (hid + plus)) ∧ W'.cell? ⟨w5.heap.size, 0, none⟩ = some (.slice q5.A q5.rs.length q5.c) ∧ W'.cell? ⟨w5.heap.size, 1, none⟩ = some (.int .i64 (q5.hid)))
    (first | with_reducible exact ⟨x00, x01, x10, x11⟩ | with_reducible exact ⟨hE7.cell0 mL, hE7.cell1 mL, hE7.cell0 mQ, hE7.cell1 mQ⟩ | with_reducible exact ⟨cell_set2 nP3 (hE7.cell0 mL), cell_set2 nP3 (hE7.cell1 mL), cell_set2 nP5 (hE7.cell0 mQ), cell_set2 nP5 (hE7.cell1 mQ)⟩)
    (first | (go_at_call 102; refine (join_env hE6.drew (l := l.lift plus) (r := t5) (p := ⟨rs, hid + plus, A3, c3⟩) m1 m0 m1 S2).mono ?_; rintro e w7 ⟨t7, v7, rfl, hE7, hc7, hlo7, hhi7⟩; have HC7 := Lib.hid hc7; clear hc7 hlo7 hhi7; obtain ⟨z0, z1⟩ := cells2 (hE7.b _ m2); obtain ⟨f0, f1⟩ := froz2 (hE7.b _ m2)))
  all_goals
    go_wp2
    have hss := of_set2 (u1 := .slice q5.A q5.rs.length q5.c) (u2 := .int .i64 q5.hid) z0 z1
    have hF := (hE7.set2 (u1 := .slice q5.A q5.rs.length q5.c) (u2 := .int .i64 q5.hid) (Kx.self K _) h.bel.size (bs' := bs) (fun x hx => ⟨u3 hx, Nat.ne_of_lt (new_lt (h.b x hx))⟩)).back h.up
    exact bodyPost_ret (v := .tuple #[v7, .agg #[.slice q5.A q5.rs.length q5.c, .int .i64 q5.hid]]) (by simp [results, Tryd.results103, go_sem, hss.1, hss.2]) rfl ⟨t7, v7, q5, rfl, hF.sub (sub_keep fun y hy => u3 hy) (sub_keep fun y hy => u1 hy) (fun y hy => hy), HCS.out t5 q5 _ HC5.out HC7.out⟩
theorem pop_all : ∀ n, PopTo n
  | 0 => by
    intro h l r rs hid plus v hm hn hsz
    cases r with
    | nil => exact pop_nil h hm
    | node xl xrs xhid xr xplus => exact absurd hn (by simp [Tree.size])
  | n + 1 => by
    intro h l r rs hid plus v hm hn hsz
    cases r with
    | nil => exact pop_nil h hm
    | node xl xrs xhid xr xplus => exact pop_node (pop_all n) h hm hn hsz
theorem popLast_env {K : Nat → Prop} {w0 W : World} {ts : List (Tree × Value)} {ps : List Pc} {bs : List (Nat × Obj)} (h : Env K w0 W ts ps bs) {l r : Tree} {rs : List Int} {hid plus : Int} {v : Value} (hm : (Tree.node l rs hid r plus, v) ∈ ts) (hsz : (Tree.node l rs hid r plus).cells.length ≤ 1073741824) : Calls Tryd.prog 103 #[v] W (Popped K w0 ts ps bs (Tree.node l rs hid r plus).cells) :=
  pop_all _ h hm (Nat.le_refl _) hsz
def PoppedF (K : Nat → Prop) (w0 : World) (ts : List (Tree × Value)) (ps : List Pc) (bs : List (Nat × Obj)) (cs : List (Int × Int)) (e : Ending) (w' : World) : Prop := ∃ t v q, e = .returned (.tuple #[.agg #[.slice q.A q.rs.length q.c, .int .i64 q.hid], v]) ∧ Env K w0 w' ((t, v) :: ts) (q :: ps) bs ∧ q.cells ++ t.cells = cs
def PopFTo (n : Nat) : Prop := ∀ {K : Nat → Prop} {w0 W : World} {ts : List (Tree × Value)} {ps : List Pc} {bs : List (Nat × Obj)} (h : Env K w0 W ts ps bs) {l r : Tree} {rs : List Int} {hid plus : Int} {v : Value} (hm : (Tree.node l rs hid r plus, v) ∈ ts) (hn : l.size ≤ n) (hsz : (Tree.node l rs hid r plus).cells.length ≤ 1073741824), Calls Tryd.prog 104 #[v] W (PoppedF K w0 ts ps bs (Tree.node l rs hid r plus).cells)
set_option maxRecDepth 100000 in
set_option maxHeartbeats 4000000 in
theorem popF_nil {K : Nat → Prop} {w0 W : World} {ts : List (Tree × Value)} {ps : List Pc} {bs : List (Nat × Obj)} (h : Env K w0 W ts ps bs) {r : Tree} {rs : List Int} {hid plus : Int} {v : Value} (hm : (Tree.node .nil rs hid r plus, v) ∈ ts) : Calls Tryd.prog 104 #[v] W (PoppedF K w0 ts ps bs (Tree.node .nil rs hid r plus).cells) := by
  have hX := h.excl (.cells #[.slice none 0 0, .int .i64 0] 113)
  have hcs : (Pc.cells ⟨rs, hid + plus, none, 0⟩) ++ (r.lift plus).cells = (Tree.node .nil rs hid r plus).cells := by rw [cells_open]; simp [Pc.cells, Tree.lift, Tree.cells]
  have HCS := Lib.hid hcs
  clear hcs
  go_enter Tryd.func104, Tryd.ntmps104
  go_wp2_with fail
  refine (open_env hX hm).mono ?_
  rintro e w3 ⟨v1, v2, A3, c3, rfl, hE3⟩
  obtain rfl : v1 = .pointer none := (hE3.t _ m0).rep
  obtain ⟨z0, z1⟩ := cells2 (hE3.b _ m0)
  obtain ⟨f0, f1⟩ := froz2 (hE3.b _ m0)
  have lP := hE3.lt m0
  have hbx := hE3.idle (.cells #[.slice A3 rs.length c3, .int .i64 (hid + plus)] 113)
  go_wp2_with fail
  all_goals
    try go_wp2
    have hss := of_set2 (u1 := .slice A3 rs.length c3) (u2 := .int .i64 (hid + plus)) z0 z1
    have hbl := ((Below.refl _ ((w3.setCell ⟨W.heap.size, 0, none⟩ (.slice A3 rs.length c3)).setCell ⟨W.heap.size, 1, none⟩ (.int .i64 (hid + plus)))).alloc (Nat.le_refl _) (.cells #[.slice A3 rs.length c3, .int .i64 (hid + plus)] 113))
    have t0 := bcell hbl hss.1
    have t1 := bcell hbl hss.2
    have hF := ((hE3.set2 (u1 := .slice A3 rs.length c3) (u2 := .int .i64 (hid + plus)) (Kx.self K _) h.bel.size (bs' := bs) (fun x hx => ⟨u1 hx, Nat.ne_of_lt (new_lt (h.b x hx))⟩)).below hbl).back h.up
    exact bodyPost_ret (v := .tuple #[.agg #[.slice A3 rs.length c3, .int .i64 (hid + plus)], v2]) (by simp [results, Tryd.results104, go_sem, t0, t1]) rfl ⟨_, v2, ⟨rs, hid + plus, A3, c3⟩, rfl, hF.sub (fun y hy => u1 (sub_keep (fun z hz => hz) y hy)) (fun y hy => hy) (fun y hy => hy), HCS.out⟩
set_option maxRecDepth 100000 in
set_option maxHeartbeats 4000000 in
theorem popF_node {n : Nat} (ih : PopFTo n) {K : Nat → Prop} {w0 W : World} {ts : List (Tree × Value)} {ps : List Pc} {bs : List (Nat × Obj)} (h : Env K w0 W ts ps bs) {r xl xr : Tree} {rs xrs : List Int} {hid plus xhid xplus : Int} {v : Value} (hm : ((Tree.node (Tree.node xl xrs xhid xr xplus) rs hid r plus), v) ∈ ts) (hn : (Tree.node xl xrs xhid xr xplus).size ≤ n + 1) (hsz : (Tree.node (Tree.node xl xrs xhid xr xplus) rs hid r plus).cells.length ≤ 1073741824) : Calls Tryd.prog 104 #[v] W (PoppedF K w0 ts ps bs (Tree.node (Tree.node xl xrs xhid xr xplus) rs hid r plus).cells) := by
  have hX := h.excl (.cells #[.slice none 0 0, .int .i64 0] 113)
  have a4 := len_open (Tree.node xl xrs xhid xr xplus) rs hid r plus
  have a5 := len_open xl xrs xhid xr xplus
  have a6 := len_open xl xrs xhid xr (xplus + plus)
  have a7 : (Tree.node xl xrs xhid xr xplus).size = xl.size + 1 + xr.size := rfl
  have n1 : xl.size ≤ n := by omega
  have s1 : (Tree.node xl xrs xhid xr (xplus + plus)).cells.length ≤ 1073741824 := by omega
  have hs2 : ∀ (t5 : Tree) (q5 : Pc), q5.cells ++ t5.cells = (Tree.node xl xrs xhid xr (xplus + plus)).cells → t5.cells.length + rs.length + (r.lift plus).cells.length ≤ 1073741824 := by
    intro t5 q5 e
    have e1 := congrArg List.length e
    rw [List.length_append] at e1
    rw [len_lift]
    omega
  have hcs : ∀ (t5 : Tree) (q5 : Pc) (cs : List (Int × Int)), q5.cells ++ t5.cells = (Tree.node xl xrs xhid xr (xplus + plus)).cells → cs = t5.cells ++ (Pc.cells ⟨rs, hid + plus, none, 0⟩) ++ (r.lift plus).cells → q5.cells ++ cs = (Tree.node (Tree.node xl xrs xhid xr xplus) rs hid r plus).cells := by
    rintro t5 q5 _ e1 rfl
    rw [cells_open _ rs hid r, show (Tree.node xl xrs xhid xr xplus).lift plus = .node xl xrs xhid xr (xplus + plus) from rfl, ← e1]
    simp only [Pc.cells, List.append_assoc]
  have HCS := Lib.hid hcs
  have HS2 := Lib.hid hs2
  clear hcs hs2 a4 a5 a6 a7 hn
  go_enter Tryd.func104, Tryd.ntmps104
  go_wp2_with fail
  refine (open_env hX hm).mono ?_
  rintro e w3 ⟨v1, v2, A3, c3, rfl, hE3⟩
  obtain ⟨pa, _, _, _, _, rfl, _⟩ := (show Rep (Kx K W.heap.size) w3 (Tree.node xl xrs xhid xr (xplus + plus)) v1 from (hE3.t _ m0).rep)
  have hE4 := hE3.box (.cells #[.slice A3 rs.length c3, .int .i64 (hid + plus)] 113)
  go_wp2_with fail
  refine (ih hE4 (l := xl) (r := xr) (rs := xrs) (hid := xhid) (plus := xplus + plus) m0 n1 s1).mono ?_
  rintro e w5 ⟨t5, v5, q5, rfl, hE5, hc5⟩
  have S2 := HS2.out t5 q5 hc5
  have HC5 := Lib.hid hc5
  clear hc5 HS2
  have hE6 := hE5.box (.cells #[.slice q5.A q5.rs.length q5.c, .int .i64 q5.hid] 113)
  go_wp2_with fail
  have mL : (w3.heap.size, Pc.obj ⟨rs, hid + plus, A3, c3⟩) ∈ ((w5.heap.size, Pc.obj q5) :: (w3.heap.size, Pc.obj ⟨rs, hid + plus, A3, c3⟩) :: (W.heap.size, .cells #[.slice none 0 0, .int .i64 0] 113 (0, 0)) :: bs : List (Nat × Obj)) := m1
  have mQ : (w5.heap.size, Pc.obj q5) ∈ ((w5.heap.size, Pc.obj q5) :: (w3.heap.size, Pc.obj ⟨rs, hid + plus, A3, c3⟩) :: (W.heap.size, .cells #[.slice none 0 0, .int .i64 0] 113 (0, 0)) :: bs : List (Nat × Obj)) := m0
  have lP5 : W.heap.size < w5.heap.size := hE5.lt m1
  have lP3 : W.heap.size < w3.heap.size := hE3.lt m0
  have x00 := hE6.drew.cell0 mL
  have x01 := hE6.drew.cell1 mL
  have x10 := hE6.drew.cell0 mQ
  have x11 := hE6.drew.cell1 mQ
  dsimp only at x00 x01
  have nP3 : W.heap.size ≠ w3.heap.size := Nat.ne_of_lt lP3
  have nP5 : W.heap.size ≠ w5.heap.size := Nat.ne_of_lt lP5
  go_region_held3 (fun W' => W'.cell? ⟨w3.heap.size, 0, none⟩ = some (.slice A3 rs.length c3) ∧ W'.cell? ⟨w3.heap.size, 1, none⟩ = some (.int .i64 (hid + plus)) ∧ W'.cell? ⟨w5.heap.size, 0, none⟩ = some (.slice q5.A q5.rs.length q5.c) ∧ W'.cell? ⟨w5.heap.size, 1, none⟩ = some (.int .i64 (q5.hid)))
    (first | with_reducible exact ⟨x00, x01, x10, x11⟩ | with_reducible exact ⟨hE7.cell0 mL, hE7.cell1 mL, hE7.cell0 mQ, hE7.cell1 mQ⟩ | with_reducible exact ⟨cell_set2 nP3 (hE7.cell0 mL), cell_set2 nP3 (hE7.cell1 mL), cell_set2 nP5 (hE7.cell0 mQ), cell_set2 nP5 (hE7.cell1 mQ)⟩)
    (first | (go_at_call 102; refine (join_env hE6.drew (l := t5) (r := r.lift plus) (p := ⟨rs, hid + plus, A3, c3⟩) m0 m2 m1 S2).mono ?_; rintro e w7 ⟨t7, v7, rfl, hE7, hc7, hlo7, hhi7⟩; have HC7 := Lib.hid hc7; clear hc7 hlo7 hhi7; obtain ⟨z0, z1⟩ := cells2 (hE7.b _ m2); obtain ⟨f0, f1⟩ := froz2 (hE7.b _ m2)))
  all_goals
    go_wp2
    have hss := of_set2 (u1 := .slice q5.A q5.rs.length q5.c) (u2 := .int .i64 q5.hid) z0 z1
    have hF := (hE7.set2 (u1 := .slice q5.A q5.rs.length q5.c) (u2 := .int .i64 q5.hid) (Kx.self K _) h.bel.size (bs' := bs) (fun x hx => ⟨u3 hx, Nat.ne_of_lt (new_lt (h.b x hx))⟩)).back h.up
    exact bodyPost_ret (v := .tuple #[.agg #[.slice q5.A q5.rs.length q5.c, .int .i64 q5.hid], v7]) (by simp [results, Tryd.results104, go_sem, hss.1, hss.2]) rfl ⟨t7, v7, q5, rfl, hF.sub (sub_keep fun y hy => u3 hy) (sub_keep fun y hy => u1 hy) (fun y hy => hy), HCS.out t5 q5 _ HC5.out HC7.out⟩
theorem popF_all : ∀ n, PopFTo n
  | 0 => by
    intro h l r rs hid plus v hm hn hsz
    cases l with
    | nil => exact popF_nil h hm
    | node xl xrs xhid xr xplus => exact absurd hn (by simp [Tree.size])
  | n + 1 => by
    intro h l r rs hid plus v hm hn hsz
    cases l with
    | nil => exact popF_nil h hm
    | node xl xrs xhid xr xplus => exact popF_node (popF_all n) h hm hn hsz
theorem popFirst_env {K : Nat → Prop} {w0 W : World} {ts : List (Tree × Value)} {ps : List Pc} {bs : List (Nat × Obj)} (h : Env K w0 W ts ps bs) {l r : Tree} {rs : List Int} {hid plus : Int} {v : Value} (hm : (Tree.node l rs hid r plus, v) ∈ ts) (hsz : (Tree.node l rs hid r plus).cells.length ≤ 1073741824) : Calls Tryd.prog 104 #[v] W (PoppedF K w0 ts ps bs (Tree.node l rs hid r plus).cells) :=
  popF_all _ h hm (Nat.le_refl _) hsz
end Go.Proofs.YteeigokkafcaaaaDoorRope
end
section
namespace Go.Proofs.YteeigokkafcaaaaDoorRope
open Go.RowKit Go.Proofs.YteeigokkafcaaaaDoorW.PrintWords Go.Proofs.YteeigokkafcaaaaDoorW.PrintMore
set_option linter.unusedSimpArgs false
set_option linter.unusedVariables false
attribute [local go_sem] run_field2 run_field0
theorem all_len {K : Nat → Prop} {w0 W : World} {ts : List (Tree × Value)} {ps : List Pc} {bs : List (Nat × Obj)} (h : Env K w0 W ts ps bs) {t : Tree} {v : Value} (hm : (t, v) ∈ ts) : Calls Tryd.prog 58 #[v] W fun e w' => ∃ x1 x2 x3 x4 x5 : Int, e = .returned (.agg #[.int .i64 (t.cells.length : Int), .int .i64 x1, .int .i64 x2, .int .i64 x3, .int .i64 x4, .int .i64 x5]) ∧ Env K w0 w' ts ps bs := by
  have e1 := (h.t _ hm).good.sums.tot
  refine (all_env h hm).mono ?_
  rintro e w' ⟨he, hE⟩
  rw [show (t.sm.tot : Int) = (t.cells.length : Int) from e1] at he
  exact ⟨_, _, _, _, _, he, hE⟩
def Split (K : Nat → Prop) (w0 : World) (ts : List (Tree × Value)) (ps : List Pc) (bs : List (Nat × Obj)) (cs : List (Int × Int)) (n : Nat) (e : Ending) (w' : World) : Prop := ∃ a b va vb, e = .returned (.tuple #[va, vb]) ∧ Env K w0 w' ((a, va) :: (b, vb) :: ts) ps bs ∧ a.cells = cs.take n ∧ b.cells = cs.drop n
def SplitTo (n : Nat) : Prop := ∀ {K : Nat → Prop} {w0 W : World} {ts : List (Tree × Value)} {ps : List Pc} {bs : List (Nat × Obj)} (h : Env K w0 W ts ps bs) {t : Tree} {v : Value} (hm : (t, v) ∈ ts) (hn : t.size ≤ n) (at_ : Nat) (ha : at_ ≤ t.cells.length) (hsz : t.cells.length ≤ 536870912), Calls Tryd.prog 72 #[v, .int .i64 (at_ : Int)] W (Split K w0 ts ps bs t.cells at_)
theorem set1 {W : World} {g : Nat} {a b a' : Value} {t : TypeId} {fr : Nat × Nat} (h : W.heap[g]? = some (.cells #[a, b] t fr)) : (W.setCell ⟨g, 0, none⟩ a').heap[g]? = some (.cells #[a', b] t fr) := by
  simp [World.setCell, Array.getElem?_modify, h]
theorem Env.addB {K : Nat → Prop} {w0 W : World} {ts : List (Tree × Value)} {ps : List Pc} {bs : List (Nat × Obj)} (h : Env K w0 W ts ps bs) {g : Nat} {o : Obj} (hg : W.heap[g]? = some o) : Env K w0 W ts ps ((g, o) :: bs) := by
  refine ⟨h.t, h.p, fun x hx => ?_, h.bel, h.up⟩
  rcases List.mem_cons.1 hx with rfl | hx
  · exact hg
  · exact h.b x hx
def TwoBox (w5 : World) (p : Pc) (v14 v15 : Value) (wx : World) : Prop := ∃ gx gy, v14 = .pointer (some ⟨gx, 0, none⟩) ∧ v15 = .pointer (some ⟨gy, 0, none⟩) ∧ gx ≠ gy ∧ w5.heap.size ≤ gx ∧ w5.heap.size ≤ gy ∧ wx.heap[gx]? = some p.obj ∧ wx.heap[gy]? = some p.obj ∧ Below w5.heap.size w5 wx
theorem TwoBox.mk {w5 : World} {p : Pc} : TwoBox w5 p (.pointer (some ⟨w5.heap.size, 0, none⟩)) (.pointer (some ⟨w5.heap.size + 1, 0, none⟩)) ((w5.alloc p.obj).alloc p.obj).drew := by
  refine ⟨_, _, rfl, rfl, by omega, Nat.le_refl _, by omega, ?_, ?_, ?_⟩
  · exact (Below.heap_alloc _ _ _ (by simp)).trans (heap_new _ _)
  · exact heap_new' (by simp)
  · exact (((Below.refl _ w5).alloc (Nat.le_refl _) _).alloc (by simp) _).drew
theorem TwoBox.km {w5 : World} {p : Pc} : TwoBox w5 p (.pointer (some ⟨w5.heap.size + 1, 0, none⟩)) (.pointer (some ⟨w5.heap.size, 0, none⟩)) ((w5.alloc p.obj).alloc p.obj).drew := by
  obtain ⟨gx, gy, h1, h2, h3, h4, h5, h6, h7, h8⟩ := TwoBox.mk (w5 := w5) (p := p)
  injection h1 with h1; injection h1 with h1; injection h1 with h1 _ _
  injection h2 with h2; injection h2 with h2; injection h2 with h2 _ _
  subst h1 h2
  exact ⟨_, _, rfl, rfl, h3.symm, h5, h4, h7, h6, h8⟩
set_option maxRecDepth 100000 in
set_option maxHeartbeats 4000000 in
theorem split_nil {K : Nat → Prop} {w0 W : World} {ts : List (Tree × Value)} {ps : List Pc} {bs : List (Nat × Obj)} (h : Env K w0 W ts ps bs) (a : Int) : Calls Tryd.prog 72 #[.pointer none, .int .i64 a] W (Split K w0 ts ps bs [] 0) := by
  go_enter Tryd.func72, Tryd.ntmps72
  go_wp2
  go_ret2
  exact ⟨.nil, .nil, .pointer none, .pointer none, rfl, h.nilT.nilT, rfl, rfl⟩
set_option maxRecDepth 100000 in
set_option maxHeartbeats 4000000 in
theorem split_l {n : Nat} (ih : SplitTo n) {K : Nat → Prop} {w0 W : World} {ts : List (Tree × Value)} {ps : List Pc} {bs : List (Nat × Obj)} (h : Env K w0 W ts ps bs) {l r : Tree} {rs : List Int} {hid plus : Int} {v : Value} (hm : ((Tree.node l rs hid r plus), v) ∈ ts) (hn : (Tree.node l rs hid r plus).size ≤ n + 1) (at_ : Nat) (ha : at_ ≤ (Tree.node l rs hid r plus).cells.length) (hsz : (Tree.node l rs hid r plus).cells.length ≤ 536870912) (hc : at_ ≤ l.cells.length) : Calls Tryd.prog 72 #[v, .int .i64 (at_ : Int)] W (Split K w0 ts ps bs (Tree.node l rs hid r plus).cells at_) := by
  obtain ⟨pa, _, _, _, _, rfl, _⟩ := (show Rep K W (Tree.node l rs hid r plus) v from (h.t _ hm).rep)
  have a4 := len_open l rs hid r plus
  have a7 : (Tree.node l rs hid r plus).size = l.size + 1 + r.size := rfl
  have b1 : (l.lift plus).cells.length = l.cells.length := len_lift l plus
  have b2 : (r.lift plus).cells.length = r.cells.length := len_lift r plus
  have hco := cells_open l rs hid r plus
  have n1 : (l.lift plus).size ≤ n := by rw [Tree.size_lift]; omega
  have c1 : decide (at_ ≤ (l.lift plus).cells.length) = true := by simp; omega
  have l1 : at_ ≤ (l.lift plus).cells.length := by omega
  have s1 : (l.lift plus).cells.length ≤ 536870912 := by omega
  have s2 : ∀ b : Tree, b.cells = (l.lift plus).cells.drop at_ → b.cells.length + rs.length + (r.lift plus).cells.length ≤ 1073741824 := fun b e => by rw [e, List.length_drop]; omega
  have hcs : ∀ (a b : Tree) (cs : List (Int × Int)), a.cells = (l.lift plus).cells.take at_ → b.cells = (l.lift plus).cells.drop at_ → cs = b.cells ++ (Pc.cells ⟨rs, hid + plus, none, 0⟩) ++ (r.lift plus).cells → a.cells = (Tree.node l rs hid r plus).cells.take at_ ∧ cs = (Tree.node l rs hid r plus).cells.drop at_ := by
    rintro a b _ e1 e2 rfl
    rw [hco, e1, e2, List.append_assoc, List.append_assoc, List.take_append_of_le_length l1, List.drop_append_of_le_length l1]
    exact ⟨rfl, rfl⟩
  have HCS := Lib.hid hcs
  have S2 := Lib.hid s2
  clear hcs s2 hco a4 a7 b1 b2 hn ha hc
  go_enter Tryd.func72, Tryd.ntmps72
  go_wp2_with fail
  refine (open_env h hm).mono ?_
  rintro e w3 ⟨v1, v2, A3, c3, rfl, hE3⟩
  have hE4 := hE3.box (.cells #[.slice A3 rs.length c3, .int .i64 (hid + plus)] 113)
  go_wp2_with fail
  refine (all_len hE4 m0).mono ?_
  rintro e w5 ⟨y1, y2, y3, y4, y5, rfl, hE5⟩
  have x00 := hE5.cell0 (p := ⟨rs, hid + plus, A3, c3⟩) m0
  have x01 := hE5.cell1 (p := ⟨rs, hid + plus, A3, c3⟩) m0
  dsimp only at x00 x01
  go_wp2_with fail
  refine (ih hE5 m0 n1 at_ l1 s1).mono ?_
  rintro e w6 ⟨a, b, va, vb, rfl, hE6, ha6, hb6⟩
  have S2' := S2.out b hb6
  have HA6 := Lib.hid ha6
  have HB6 := Lib.hid hb6
  clear ha6 hb6
  have z0 := hE6.cell0 (p := ⟨rs, hid + plus, A3, c3⟩) m0
  have z1 := hE6.cell1 (p := ⟨rs, hid + plus, A3, c3⟩) m0
  dsimp only at z0 z1
  go_wp2_with fail
  refine (join_env hE6 (l := b) (r := r.lift plus) (p := ⟨rs, hid + plus, A3, c3⟩) m1 m3 m0 S2').mono ?_
  rintro e w7 ⟨t7, v7, rfl, hE7, hc7, hlo7, hhi7⟩
  have HF := Lib.hid (HCS.out a b t7.cells HA6.out HB6.out hc7)
  clear hc7 hlo7 hhi7
  go_wp2_with fail
  go_ret2
  exact ⟨a, t7, va, v7, rfl, hE7.sub (fun y hy => by rcases List.mem_cons.1 hy with rfl | hy; exact m1; exact sub_keep (fun z hz => u4 hz) y hy) (fun y hy => u1 hy) (fun y hy => u1 hy), HF.out.1, HF.out.2⟩
set_option maxRecDepth 100000 in
set_option maxHeartbeats 4000000 in
theorem split_r {n : Nat} (ih : SplitTo n) {K : Nat → Prop} {w0 W : World} {ts : List (Tree × Value)} {ps : List Pc} {bs : List (Nat × Obj)} (h : Env K w0 W ts ps bs) {l r : Tree} {rs : List Int} {hid plus : Int} {v : Value} (hm : ((Tree.node l rs hid r plus), v) ∈ ts) (hn : (Tree.node l rs hid r plus).size ≤ n + 1) (at_ : Nat) (ha : at_ ≤ (Tree.node l rs hid r plus).cells.length) (hsz : (Tree.node l rs hid r plus).cells.length ≤ 536870912) (hc : l.cells.length + rs.length ≤ at_) : Calls Tryd.prog 72 #[v, .int .i64 (at_ : Int)] W (Split K w0 ts ps bs (Tree.node l rs hid r plus).cells at_) := by
  obtain ⟨pa, _, _, _, _, rfl, _⟩ := (show Rep K W (Tree.node l rs hid r plus) v from (h.t _ hm).rep)
  have a4 := len_open l rs hid r plus
  have a7 : (Tree.node l rs hid r plus).size = l.size + 1 + r.size := rfl
  have b1 : (l.lift plus).cells.length = l.cells.length := len_lift l plus
  have b2 : (r.lift plus).cells.length = r.cells.length := len_lift r plus
  have hco := cells_open l rs hid r plus
  have n1 : (r.lift plus).size ≤ n := by rw [Tree.size_lift]; omega
  have hne : rs ≠ [] := (show (Tree.node l rs hid r plus).Good 0 from (h.t _ hm).good).1
  have hne2 : rs.length ≠ 0 := fun e => hne (List.eq_nil_of_length_eq_zero e)
  have c1 : decide (at_ ≤ (l.lift plus).cells.length) = false := by simp; omega
  obtain ⟨k, hk⟩ : ∃ k, at_ = (l.lift plus).cells.length + rs.length + k := ⟨at_ - ((l.lift plus).cells.length + rs.length), by omega⟩
  have c2 : ((l.lift plus).cells.length : Int) + (rs.length : Int) ≤ (at_ : Int) := by omega
  have c4 : (at_ : Int) ≤ 536870912 := by omega
  have l1 : k ≤ (r.lift plus).cells.length := by omega
  have s1 : (r.lift plus).cells.length ≤ 536870912 := by omega
  have c5 : (at_ : Int) - ((l.lift plus).cells.length : Int) - (rs.length : Int) = (k : Int) := by omega
  have s2 : ∀ a : Tree, a.cells = (r.lift plus).cells.take k → (l.lift plus).cells.length + rs.length + a.cells.length ≤ 1073741824 := fun a e => by rw [e, List.length_take]; omega
  have hcs : ∀ (a b : Tree) (cs : List (Int × Int)), a.cells = (r.lift plus).cells.take k → b.cells = (r.lift plus).cells.drop k → cs = (l.lift plus).cells ++ (Pc.cells ⟨rs, hid + plus, none, 0⟩) ++ a.cells → cs = (Tree.node l rs hid r plus).cells.take at_ ∧ b.cells = (Tree.node l rs hid r plus).cells.drop at_ := by
    rintro a b _ e1 e2 rfl
    have e3 : at_ = ((l.lift plus).cells ++ rs.map (fun c => (c, hid + plus))).length + k := by simp; omega
    rw [hco, e1, e2, e3, List.take_length_add_append, List.drop_length_add_append]
    exact ⟨rfl, rfl⟩
  have HCS := Lib.hid hcs
  have S2 := Lib.hid s2
  have HC5 := Lib.hid c5
  clear hcs s2 hco a4 a7 b1 b2 hn ha hc hk c5
  go_enter Tryd.func72, Tryd.ntmps72
  go_wp2_with fail
  refine (open_env h hm).mono ?_
  rintro e w3 ⟨v1, v2, A3, c3, rfl, hE3⟩
  have hE4 := hE3.box (.cells #[.slice A3 rs.length c3, .int .i64 (hid + plus)] 113)
  go_wp2_with fail
  refine (all_len hE4 m0).mono ?_
  rintro e w5 ⟨y1, y2, y3, y4, y5, rfl, hE5⟩
  have x00 := hE5.cell0 (p := ⟨rs, hid + plus, A3, c3⟩) m0
  have x01 := hE5.cell1 (p := ⟨rs, hid + plus, A3, c3⟩) m0
  dsimp only at x00 x01
  go_wp2_with fail
  rw [HC5.out]
  refine (ih hE5 m1 n1 k l1 s1).mono ?_
  rintro e w6 ⟨a, b, va, vb, rfl, hE6, ha6, hb6⟩
  have S2' := S2.out a ha6
  have HA6 := Lib.hid ha6
  have HB6 := Lib.hid hb6
  clear ha6 hb6
  have z0 := hE6.cell0 (p := ⟨rs, hid + plus, A3, c3⟩) m0
  have z1 := hE6.cell1 (p := ⟨rs, hid + plus, A3, c3⟩) m0
  dsimp only at z0 z1
  go_wp2_with fail
  refine (join_env hE6 (l := l.lift plus) (r := a) (p := ⟨rs, hid + plus, A3, c3⟩) m2 m0 m0 S2').mono ?_
  rintro e w7 ⟨t7, v7, rfl, hE7, hc7, hlo7, hhi7⟩
  have HF := Lib.hid (HCS.out a b t7.cells HA6.out HB6.out hc7)
  clear hc7 hlo7 hhi7
  go_wp2_with fail
  go_ret2
  exact ⟨t7, b, v7, vb, rfl, hE7.sub (fun y hy => by rcases List.mem_cons.1 hy with rfl | hy; exact m0; rcases List.mem_cons.1 hy with rfl | hy; exact m2; exact u5 hy) (fun y hy => u1 hy) (fun y hy => u1 hy), HF.out.1, HF.out.2⟩
end Go.Proofs.YteeigokkafcaaaaDoorRope
end
section
namespace Go.Proofs.YteeigokkafcaaaaDoorRope
open Go.RowKit Go.Proofs.YteeigokkafcaaaaDoorW.PrintWords Go.Proofs.YteeigokkafcaaaaDoorW.PrintMore
set_option linter.unusedSimpArgs false
set_option linter.unusedVariables false
attribute [local go_sem] run_field2 run_field0
set_option maxRecDepth 100000 in
set_option maxHeartbeats 4000000 in
theorem split_m {n : Nat} (ih : SplitTo n) {K : Nat → Prop} {w0 W : World} {ts : List (Tree × Value)} {ps : List Pc} {bs : List (Nat × Obj)} (h : Env K w0 W ts ps bs) {l r : Tree} {rs : List Int} {hid plus : Int} {v : Value} (hm : ((Tree.node l rs hid r plus), v) ∈ ts) (hn : (Tree.node l rs hid r plus).size ≤ n + 1) (at_ : Nat) (ha : at_ ≤ (Tree.node l rs hid r plus).cells.length) (hsz : (Tree.node l rs hid r plus).cells.length ≤ 536870912) (hc : l.cells.length < at_ ∧ at_ < l.cells.length + rs.length) : Calls Tryd.prog 72 #[v, .int .i64 (at_ : Int)] W (Split K w0 ts ps bs (Tree.node l rs hid r plus).cells at_) := by
  obtain ⟨pa, _, _, _, _, rfl, _⟩ := (show Rep K W (Tree.node l rs hid r plus) v from (h.t _ hm).rep)
  have a4 := len_open l rs hid r plus
  have a7 : (Tree.node l rs hid r plus).size = l.size + 1 + r.size := rfl
  have b1 : (l.lift plus).cells.length = l.cells.length := len_lift l plus
  have b2 : (r.lift plus).cells.length = r.cells.length := len_lift r plus
  have hco := cells_open l rs hid r plus
  obtain ⟨hc1, hc2⟩ := hc
  have c1 : decide (at_ ≤ (l.lift plus).cells.length) = false := by simp; omega
  obtain ⟨k, hk⟩ : ∃ k, at_ = (l.lift plus).cells.length + k := ⟨at_ - (l.lift plus).cells.length, by omega⟩
  have c2 : decide (((l.lift plus).cells.length : Int) + (rs.length : Int) ≤ (at_ : Int)) = false := by simp; omega
  have c4 : (at_ : Int) ≤ 536870912 := by omega
  have k0 : 0 < k := by omega
  have k1 : k < rs.length := by omega
  have c5 : (at_ : Int) - ((l.lift plus).cells.length : Int) = (k : Int) := by omega
  have b3 : ((l.lift plus).cells.length : Int) ≤ 536870912 := by omega
  have b4 : (rs.length : Int) ≤ 536870912 := by omega
  have s1 : (l.lift plus).cells.length + (rs.take k).length + (Tree.nil).cells.length ≤ 1073741824 := by rw [List.length_take]; simp [Tree.cells]; omega
  have s2 : (Tree.nil).cells.length + (rs.drop k).length + (r.lift plus).cells.length ≤ 1073741824 := by rw [List.length_drop]; simp [Tree.cells]; omega
  have hcs : ∀ (a b : List (Int × Int)), a = (l.lift plus).cells ++ (Pc.cells ⟨rs.take k, hid + plus, none, 0⟩) ++ Tree.nil.cells → b = Tree.nil.cells ++ (Pc.cells ⟨rs.drop k, hid + plus, none, 0⟩) ++ (r.lift plus).cells → a = (Tree.node l rs hid r plus).cells.take at_ ∧ b = (Tree.node l rs hid r plus).cells.drop at_ := by
    rintro _ _ rfl rfl
    rw [hco, hk]
    simp only [Pc.cells, Tree.cells, List.append_nil, List.nil_append, List.append_assoc, List.take_length_add_append, List.drop_length_add_append, List.map_take, List.map_drop]
    rw [List.take_append_of_le_length (by simp; omega), List.drop_append_of_le_length (by simp; omega)]
    exact ⟨rfl, rfl⟩
  have HCS := Lib.hid hcs
  have HC5 := Lib.hid c5
  clear hcs hco a4 a7 b1 b2 hn ha hc1 hc2 hk c5
  go_enter Tryd.func72, Tryd.ntmps72
  go_wp2_with fail
  refine (open_env h hm).mono ?_
  rintro e w3 ⟨v1, v2, A3, c3, rfl, hE3⟩
  have hE4 := hE3.box (.cells #[.slice A3 rs.length c3, .int .i64 (hid + plus)] 113)
  go_wp2_with fail
  refine (all_len hE4 m0).mono ?_
  rintro e w5 ⟨y1, y2, y3, y4, y5, rfl, hE5⟩
  have x00 := hE5.cell0 (p := ⟨rs, hid + plus, A3, c3⟩) m0
  have x01 := hE5.cell1 (p := ⟨rs, hid + plus, A3, c3⟩) m0
  dsimp only at x00 x01
  go_wp2_with fail
  have hP := hE5.b _ m0
  have lP := hE5.lt m0
  go_cut [14, 15] from 67 to 68 (fun v14 v15 wx => TwoBox w5 ⟨rs, hid + plus, A3, c3⟩ v14 v15 wx)
  case first =>
    go_region
    all_goals
      go_wp2_with fail
      go_meet
      first | exact TwoBox.mk | exact TwoBox.km
  case rest =>
    obtain ⟨gx, gy, rfl, rfl, hne, hx, hy, hxo, hyo, hbc⟩ := hcut
    have hp3 := hE5.p _ m0
    obtain ⟨ad, rfl⟩ : ∃ ad, A3 = some ad := by
      obtain ⟨ad, e, _⟩ := hp3.ra.2.2 (by show 0 < rs.length; omega)
      exact ⟨ad, e⟩
    have hcap : rs.length ≤ c3 := hp3.cap
    have hck : (c3 = k) = False := by simp; omega
    have hck2 : (c3 == k) = false := by simp; omega
    have nx : gx ≠ w3.heap.size := by omega
    have ny : gy ≠ w3.heap.size := by omega
    have hne2 : gy ≠ gx := hne.symm
    have hq := (hbc.block _ lP).trans hP
    obtain ⟨z0, z1⟩ := cells2 hq
    obtain ⟨a0, a1⟩ := cells2 hxo
    obtain ⟨b0, b1⟩ := cells2 hyo
    obtain ⟨fx, _⟩ := froz2 hxo
    obtain ⟨fy, _⟩ := froz2 hyo
    dsimp only at a0 a1 b0 b1
    have HX := Lib.hid hxo
    have HY := Lib.hid hyo
    have C5 : IntKind.i64.wrap ((at_ : Int) - ((l.lift plus).cells.length : Int)) = (k : Int) := (IntWalk.i64_left _).trans ((w64 (by omega) (by omega)).trans HC5.out)
    have kz : (0 : Int) ≤ (k : Int) := by omega
    have kc : (k : Int) ≤ (c3 : Int) := by omega
    have kl : (k : Int) ≤ (rs.length : Int) := by omega
    clear hxo hyo hq hP x00 x01
    go_wp2_with fail
    go_region_held3 (fun W' => W'.cell? ⟨w3.heap.size, 0, none⟩ = some (.slice (some ad) rs.length c3))
      (first | with_reducible exact z0 | (go_keep; done))
      (fail)
    obtain ⟨Wf, hWf⟩ : ∃ Wf, ((wc.setCell ⟨gx, 0, none⟩ (.slice (some ad) k c3)).setCell ⟨gy, 0, none⟩ (.slice (some (ad.add k)) (rs.length - k) (c3 - k))).drew = Wf := ⟨_, rfl⟩
    have hbf : Below w5.heap.size w5 Wf := by rw [← hWf]; exact ((hbc.setCell (p := ⟨gx, 0, none⟩) hx _).setCell (p := ⟨gy, 0, none⟩) hy _).drew
    have hgx : Wf.heap[gx]? = some (Pc.obj ⟨rs.take k, hid + plus, some ad, c3⟩) := by
      rw [← hWf]
      show ((wc.setCell ⟨gx, 0, none⟩ _).setCell ⟨gy, 0, none⟩ _).heap[gx]? = _
      rw [Below.heap_setCell _ _ _ _ hne, set1 HX.out]
      show _ = some (Obj.cells #[.slice (some ad) (rs.take k).length c3, .int .i64 (hid + plus)] 113 (0, 0))
      rw [List.length_take, Nat.min_eq_left (Nat.le_of_lt k1)]
    have hgy : Wf.heap[gy]? = some (Pc.obj ⟨rs.drop k, hid + plus, some (ad.add k), c3 - k⟩) := by
      rw [← hWf]
      show ((wc.setCell ⟨gx, 0, none⟩ _).setCell ⟨gy, 0, none⟩ _).heap[gy]? = _
      rw [set1 (by rw [Below.heap_setCell _ _ _ _ hne2]; exact HY.out)]
      show _ = some (Obj.cells #[.slice (some (ad.add k)) (rs.drop k).length (c3 - k), .int .i64 (hid + plus)] 113 (0, 0))
      rw [List.length_drop]
    rw [hWf]
    have hEf := hE5.below hbf
    have hpf := hEf.p _ m0
    have hpx : PieceIn K Wf ⟨rs.take k, hid + plus, some ad, c3⟩ := ⟨Kd.C_take hpf.ra (Nat.le_of_lt k1), hpf.k, Nat.le_trans (List.length_take_le _ _) (Nat.le_trans (Nat.le_of_lt k1) hcap), fun e => by have h1 : (rs.take k).length = 0 := (by rw [show rs.take k = [] from e]; rfl); rw [List.length_take] at h1; omega, hpf.h⟩
    have hpy : PieceIn K Wf ⟨rs.drop k, hid + plus, some (ad.add k), c3 - k⟩ := by
      have hd := Kd.C_drop hpf.ra (m := k) (c := c3) (Nat.le_of_lt k1) hcap
      rw [if_neg (by omega), show k * (Kd.int IntKind.i32).sz = k from Nat.mul_one k] at hd
      refine ⟨hd, fun ad2 e => ?_, by show (rs.drop k).length ≤ c3 - k; rw [List.length_drop]; omega, fun e => by have h1 : (rs.drop k).length = 0 := (by rw [show rs.drop k = [] from e]; rfl); rw [List.length_drop] at h1; omega, hpf.h⟩
      have e2 : some (ad.add k) = some ad2 := e
      injection e2 with e2
      rw [← e2, add_block]
      exact hpf.k ad rfl
    have hEg := ((hEf.nilT.addP hpy).addP hpx).addB hgy |>.addB hgx
    clear hEf hpf hpx hpy hgx hgy hWf hbf hp3 hbc HX HY a0 a1 b0 b1 fx fy z0 z1 hE3 hE4 hE5 hck hck2
    obtain ⟨px, hpx⟩ : ∃ p : Pc, p = ⟨rs.take k, hid + plus, some ad, c3⟩ := ⟨_, rfl⟩
    obtain ⟨py, hpy⟩ : ∃ p : Pc, p = ⟨rs.drop k, hid + plus, some (ad.add k), c3 - k⟩ := ⟨_, rfl⟩
    have S1 : (l.lift plus).cells.length + px.rs.length + (Tree.nil).cells.length ≤ 1073741824 := by rw [hpx]; exact s1
    have S2 : (Tree.nil).cells.length + py.rs.length + (r.lift plus).cells.length ≤ 1073741824 := by rw [hpy]; exact s2
    have HD : ∀ (a b : List (Int × Int)), a = (l.lift plus).cells ++ px.cells ++ Tree.nil.cells → b = Tree.nil.cells ++ py.cells ++ (r.lift plus).cells → a = (Tree.node l rs hid r plus).cells.take at_ ∧ b = (Tree.node l rs hid r plus).cells.drop at_ := by rw [hpx, hpy]; exact HCS.out
    have HD := Lib.hid HD
    rw [← hpx, ← hpy] at hEg
    clear HCS s1 s2 hpx hpy
    have mX : (gx, Pc.obj px) ∈ ((gx, Pc.obj px) :: (gy, Pc.obj py) :: (w3.heap.size, Pc.obj ⟨rs, hid + plus, some ad, c3⟩) :: bs : List (Nat × Obj)) := m0
    have mY : (gy, Pc.obj py) ∈ ((gx, Pc.obj px) :: (gy, Pc.obj py) :: (w3.heap.size, Pc.obj ⟨rs, hid + plus, some ad, c3⟩) :: bs : List (Nat × Obj)) := m1
    have x00 := hEg.drew.cell0 mX
    have x01 := hEg.drew.cell1 mX
    have x10 := hEg.drew.cell0 mY
    have x11 := hEg.drew.cell1 mY
    have tok : True := trivial
    go_wp2_with fail
    go_region_held3 (fun W' => W'.cell? ⟨gx, 0, none⟩ = some (.slice px.A px.rs.length px.c) ∧ W'.cell? ⟨gx, 1, none⟩ = some (.int .i64 (px.hid)) ∧ W'.cell? ⟨gy, 0, none⟩ = some (.slice py.A py.rs.length py.c) ∧ W'.cell? ⟨gy, 1, none⟩ = some (.int .i64 (py.hid)))
      (first | with_reducible exact ⟨x00, x01, x10, x11⟩ | with_reducible exact ⟨hE6.cell0 mX, hE6.cell1 mX, hE6.cell0 mY, hE6.cell1 mY⟩ | with_reducible exact ⟨hE7.cell0 mX, hE7.cell1 mX, hE7.cell0 mY, hE7.cell1 mY⟩)
      (first
        | (go_at_call 102; clear tok; refine (join_env hEg.drew (l := l.lift plus) (r := .nil) (p := px) m1 m0 m0 S1).mono ?_; rintro e w6 ⟨t6, v6, rfl, hE6, hc6, hlo6, hhi6⟩; have HC6 := Lib.hid hc6; clear hc6 hlo6 hhi6)
        | (go_at_call 102; refine (join_env hE6 (l := .nil) (r := r.lift plus) (p := py) m1 m3 m1 S2).mono ?_; rintro e w7 ⟨t7, v7, rfl, hE7, hc7, hlo7, hhi7⟩; have HC7 := Lib.hid hc7; clear hc7 hlo7 hhi7))
    all_goals
      go_wp2
      go_ret2
      exact ⟨t6, t7, v6, v7, rfl, hE7.sub (fun y hy => by rcases List.mem_cons.1 hy with rfl | hy; exact m1; rcases List.mem_cons.1 hy with rfl | hy; exact m0; exact u5 hy) (fun y hy => u3 hy) (fun y hy => u3 hy), (HD.out _ _ HC6.out HC7.out).1, (HD.out _ _ HC6.out HC7.out).2⟩
theorem split_all : ∀ n, SplitTo n
  | 0 => by
    intro h t v hm hn at_ ha hsz
    cases t with
    | nil =>
      obtain rfl : v = .pointer none := (h.t _ hm).rep
      obtain rfl : at_ = 0 := Nat.le_zero.1 ha
      exact split_nil h 0
    | node l rs hid r plus => exact absurd hn (by simp [Tree.size])
  | n + 1 => by
    intro h t v hm hn at_ ha hsz
    cases t with
    | nil =>
      obtain rfl : v = .pointer none := (h.t _ hm).rep
      obtain rfl : at_ = 0 := Nat.le_zero.1 ha
      exact split_nil h 0
    | node l rs hid r plus =>
      by_cases h1 : at_ ≤ l.cells.length
      · exact split_l (split_all n) h hm hn at_ ha hsz h1
      · by_cases h2 : l.cells.length + rs.length ≤ at_
        · exact split_r (split_all n) h hm hn at_ ha hsz h2
        · exact split_m (split_all n) h hm hn at_ ha hsz ⟨Nat.lt_of_not_le h1, Nat.lt_of_not_le h2⟩
theorem split_env {K : Nat → Prop} {w0 W : World} {ts : List (Tree × Value)} {ps : List Pc} {bs : List (Nat × Obj)} (h : Env K w0 W ts ps bs) {t : Tree} {v : Value} (hm : (t, v) ∈ ts) {at_ : Nat} (ha : at_ ≤ t.cells.length) (hsz : t.cells.length ≤ 536870912) : Calls Tryd.prog 72 #[v, .int .i64 (at_ : Int)] W (Split K w0 ts ps bs t.cells at_) :=
  split_all _ h hm (Nat.le_refl _) at_ ha hsz
end Go.Proofs.YteeigokkafcaaaaDoorRope
end
section
namespace Go.Proofs.YteeigokkafcaaaaDoorRope
open Go.RowKit Go.Proofs.YteeigokkafcaaaaDoorW.PrintWords Go.Proofs.YteeigokkafcaaaaDoorW.PrintMore
set_option linter.unusedSimpArgs false
set_option linter.unusedVariables false
attribute [local go_sem] run_field2 run_field0
def PcsAt (W : World) (A : Option Addr) (qs : List Pc) : Prop := ∀ i (hi : i < qs.length), ∃ g o, A = some ⟨g, o, none⟩ ∧ W.cell? ⟨g, o + i * 2, none⟩ = some (.slice qs[i].A qs[i].rs.length qs[i].c) ∧ W.cell? ⟨g, o + i * 2 + 1, none⟩ = some (.int .i64 qs[i].hid)
theorem PcsAt.below {W W' : World} {A : Option Addr} {qs : List Pc} (h : PcsAt W A qs) (hb : Below W.heap.size W W') : PcsAt W' A qs := by
  intro i hi
  obtain ⟨g, o, e, h1, h2⟩ := h i hi
  exact ⟨g, o, e, pw_cell_below hb h1, pw_cell_below hb h2⟩
theorem PcsAt.take {W : World} {A : Option Addr} {qs : List Pc} (h : PcsAt W A qs) (m : Nat) : PcsAt W A (qs.take m) := by
  intro i hi
  have hl : i < qs.length := Nat.lt_of_lt_of_le hi (List.length_take_le' _ _)
  obtain ⟨g, o, e, h1, h2⟩ := h i hl
  simp only [List.getElem_take]
  exact ⟨g, o, e, h1, h2⟩
theorem PcsAt.drop {W : World} {A : Option Addr} {qs : List Pc} (h : PcsAt W A qs) (m c : Nat) (hc : qs.length ≤ c) : PcsAt W (if c = m then A else A.map (·.add (m * 2))) (qs.drop m) := by
  intro i hi
  rw [List.length_drop] at hi
  obtain ⟨g, o, e, h1, h2⟩ := h (m + i) (by omega)
  rw [if_neg (by omega)]
  refine ⟨g, o + m * 2, ?_, ?_, ?_⟩
  · rw [e]
    by_cases hz : m * 2 = 0
    · simp [Addr.add, hz]
    · simp [Addr.add, hz]
  · rw [List.getElem_drop, show o + m * 2 + i * 2 = o + (m + i) * 2 by omega]; exact h1
  · rw [List.getElem_drop, show o + m * 2 + i * 2 = o + (m + i) * 2 by omega]; exact h2
def hgt (n : Nat) : Nat := if n = 0 then 0 else Nat.log2 n + 1
theorem hgt_step {n : Nat} (h : 0 < n) : hgt n = 1 + hgt (n / 2) := by
  unfold hgt
  rw [if_neg (by omega), Nat.log2_def]
  by_cases h2 : 2 ≤ n
  · rw [if_pos h2, if_neg (by omega)]; omega
  · rw [if_neg h2, if_pos (by omega)]
theorem hgt_near : ∀ n : Nat, hgt n ≤ hgt (n + 1) ∧ hgt (n + 1) ≤ hgt n + 1 := by
  intro n
  induction n using Nat.strongRecOn with
  | ind n ih =>
    by_cases h0 : n = 0
    · subst h0; decide
    · have e1 := hgt_step (n := n) (by omega)
      have e2 := hgt_step (n := n + 1) (by omega)
      by_cases h1 : (n + 1) / 2 = n / 2
      · rw [h1] at e2; omega
      · have h3 : (n + 1) / 2 = n / 2 + 1 := by omega
        have := ih (n / 2) (by omega)
        rw [h3] at e2; omega
theorem hgt_halves {n : Nat} (h : 0 < n) : hgt (n / 2) ≤ hgt (n - (n / 2 + 1)) + 1 ∧ hgt (n - (n / 2 + 1)) ≤ hgt (n / 2) := by
  by_cases c : n - (n / 2 + 1) = n / 2
  · rw [c]; omega
  · have e : n / 2 = n - (n / 2 + 1) + 1 := by omega
    have := hgt_near (n - (n / 2 + 1))
    rw [← e] at this
    omega
def pcells (qs : List Pc) : List (Int × Int) := qs.flatMap Pc.cells
theorem pcells_split (qs : List Pc) (k : Nat) (hk : k < qs.length) : pcells qs = pcells (qs.take k) ++ qs[k].cells ++ pcells (qs.drop (k + 1)) := by
  have e : qs = qs.take k ++ (qs[k] :: qs.drop (k + 1)) := by rw [← List.drop_eq_getElem_cons hk, List.take_append_drop]
  conv => lhs; rw [e]
  simp only [pcells, List.flatMap_append, List.flatMap_cons, List.append_assoc]
def BuildTo (n : Nat) : Prop := ∀ {K : Nat → Prop} {w0 W : World} {ts : List (Tree × Value)} {ps : List Pc} {bs : List (Nat × Obj)} (h : Env K w0 W ts ps bs) (qs : List Pc) (A : Option Addr) (c : Nat) (hq : ∀ q ∈ qs, q ∈ ps) (hA : PcsAt W A qs) (hc : qs.length ≤ c) (hn : qs.length ≤ n) (hsz : (pcells qs).length ≤ 1073741824) (hl : qs.length ≤ 1073741824), Calls Tryd.prog 57 #[.slice A qs.length c] W (Made K w0 ts ps bs (pcells qs) (hgt qs.length) (hgt qs.length))
set_option maxRecDepth 100000 in
set_option maxHeartbeats 4000000 in
theorem build_nil {K : Nat → Prop} {w0 W : World} {ts : List (Tree × Value)} {ps : List Pc} {bs : List (Nat × Obj)} (h : Env K w0 W ts ps bs) (A : Option Addr) (c : Nat) : Calls Tryd.prog 57 #[.slice A 0 c] W (Made K w0 ts ps bs (pcells []) (hgt 0) (hgt 0)) := by
  go_enter Tryd.func57, Tryd.ntmps57
  go_wp2
  go_ret
  exact ⟨.nil, .pointer none, rfl, h.nilT, rfl, Nat.le_refl _, Nat.le_refl _⟩
set_option maxRecDepth 100000 in
set_option maxHeartbeats 4000000 in
theorem build_node {n : Nat} (ih : BuildTo n) {K : Nat → Prop} {w0 W : World} {ts : List (Tree × Value)} {ps : List Pc} {bs : List (Nat × Obj)} (h : Env K w0 W ts ps bs) (qs : List Pc) (A : Option Addr) (c : Nat) (hq : ∀ q ∈ qs, q ∈ ps) (hA : PcsAt W A qs) (hc : qs.length ≤ c) (hn : qs.length ≤ n + 1) (hsz : (pcells qs).length ≤ 1073741824) (hl : qs.length ≤ 1073741824) (h0 : 0 < qs.length) : Calls Tryd.prog 57 #[.slice A qs.length c] W (Made K w0 ts ps bs (pcells qs) (hgt qs.length) (hgt qs.length)) := by
  obtain ⟨m, hm⟩ : ∃ m, m = qs.length := ⟨_, rfl⟩
  obtain ⟨k, hk⟩ : ∃ k, k = m / 2 := ⟨_, rfl⟩
  have kl : k < qs.length := by omega
  have km : k < m := by omega
  obtain ⟨g, o, rfl, x0, x1⟩ := hA k kl
  have hps := pcells_split qs k kl
  have hz := hgt_halves h0
  have hs := hgt_step h0
  have hlen : (pcells (qs.take k)).length + qs[k].rs.length + (pcells (qs.drop (k + 1))).length = (pcells qs).length := by rw [hps]; simp only [List.length_append, Pc.cells, List.length_map]
  obtain ⟨q, hqe⟩ : ∃ q, q = qs[k] := ⟨_, rfl⟩
  have hqm : q ∈ ps := by rw [hqe]; exact hq _ (List.getElem_mem kl)
  rw [← hqe] at x0 x1 hps hlen
  have ekc : (c = k) = False := by simp; omega
  have T1 := hA.take k
  have D1 := hA.drop (k + 1) c hc
  have eT : (qs.take k).length = k := by rw [List.length_take]; omega
  have eD : (qs.drop (k + 1)).length = m - (k + 1) := by rw [List.length_drop, hm]
  have q1 : ∀ q ∈ qs.take k, q ∈ ps := fun q h => hq q (List.mem_of_mem_take h)
  have q2 : ∀ q ∈ qs.drop (k + 1), q ∈ ps := fun q h => hq q (List.mem_of_mem_drop h)
  obtain ⟨A2, hA2⟩ : ∃ A2, A2 = (if c = k + 1 then some ⟨g, o, none⟩ else (some (⟨g, o, none⟩ : Addr)).map (·.add ((k + 1) * 2))) := ⟨_, rfl⟩
  rw [← hA2] at D1
  have J1 : ∀ {W' : World} (h' : Env K W W' ts ps bs), Below W.heap.size W W' → Calls Tryd.prog 57 #[.slice (some ⟨g, o, none⟩) k c] W' (Made K W ts ps bs (pcells (qs.take k)) (hgt k) (hgt k)) := fun h' hb => by
    have := ih h' (qs.take k) (some ⟨g, o, none⟩) c q1 (T1.below hb) (by omega) (by omega) (by omega) (by omega)
    rwa [eT] at this
  have J2 : ∀ {W' : World} {ts' : List (Tree × Value)} (h' : Env K W W' ts' ps bs), Below W.heap.size W W' → Calls Tryd.prog 57 #[.slice A2 (m - (k + 1)) (c - (k + 1))] W' (Made K W ts' ps bs (pcells (qs.drop (k + 1))) (hgt (m - (k + 1))) (hgt (m - (k + 1)))) := fun h' hb => by
    have := ih h' (qs.drop (k + 1)) A2 (c - (k + 1)) q2 (D1.below hb) (by omega) (by omega) (by omega) (by omega)
    rwa [eD] at this
  rw [← hm] at hz hs hc hn hl h0 ⊢
  rw [← hk] at hz hs
  have e2 : (m : Int) / 2 = (k : Int) := by rw [hk]; omega
  have E2 := Lib.hid e2
  have kb : (k : Int) ≤ 1073741824 := by omega
  have k0 : (0 : Int) ≤ (k : Int) := by omega
  have cut1 := cut_to (P := Tryd.prog) 101 113 .i64 (i := _) rfl rfl (some ⟨g, o, none⟩) m c (k : Int) k0 (by omega) (by omega)
  have cut2 := cut_from (P := Tryd.prog) 101 113 .i64 (i := _) rfl rfl 2 rfl (some ⟨g, o, none⟩) m c ((k : Int) + 1) (by omega) (by omega)
  have ek : ((k : Int) + 1).toNat = k + 1 := by omega
  rw [ek, ← hA2] at cut2
  rw [Int.toNat_natCast] at cut1
  have wk : IntKind.i64.wrap ((k : Int) + 1) = (k : Int) + 1 := (IntWalk.i64_left _).trans (w64 (by omega) (by omega))
  have k1m : (k : Int) + 1 ≤ (m : Int) := by omega
  have k1z : (0 : Int) ≤ (k : Int) + 1 := by omega
  have k2m : (k : Int) < (m : Int) := by omega
  have m0' : decide ((m : Int) = 0) = false := by simp; omega
  clear eT eD T1 D1 hq hqe hA hA2 ekc ek q1 q2 hm hk e2
  have HPS := Lib.hid hps
  clear hps
  go_enter Tryd.func57, Tryd.ntmps57
  go_wp2_with fail
  rw [E2.out]
  have tok : True := trivial
  have y0 : W.drew.cell? ⟨g, o + k * 2, none⟩ = some (.slice q.A q.rs.length q.c) := x0
  have y1 : W.drew.cell? ⟨g, o + k * 2 + 1, none⟩ = some (.int .i64 q.hid) := x1
  have hW : Env K W W ts ps bs := ⟨h.t, h.p, h.b, Below.refl _ W, h.up⟩
  go_region_held3 (fun W' => W'.cell? ⟨g, o + k * 2, none⟩ = some (.slice q.A q.rs.length q.c) ∧ W'.cell? ⟨g, o + k * 2 + 1, none⟩ = some (.int .i64 q.hid))
    (first | with_reducible exact ⟨y0, y1⟩ | with_reducible exact ⟨pw_cell_below hE6b x0, pw_cell_below hE6b x1⟩ | with_reducible exact ⟨pw_cell_below hE7b x0, pw_cell_below hE7b x1⟩ | with_reducible exact ⟨pw_cell_below hE8b x0, pw_cell_below hE8b x1⟩ | fail)
    (first
      | (go_at_call 57; clear tok; refine (J1 hW.drew (Below.refl _ W).drew).mono ?_; rintro e w6 ⟨t6, v6, rfl, hE6, hc6, hlo6, hhi6⟩; have hE6b := hE6.bel)
      | (go_at_call 57; refine (J2 hE6 hE6b).mono ?_; rintro e w7 ⟨t7, v7, rfl, hE7, hc7, hlo7, hhi7⟩; have hE7b := hE7.bel)
      | (go_at_call 98; refine (knot_env hE7 (l := t6) (r := t7) (p := q) m1 m0 hqm (by omega) (by omega) (by rw [hc6, hc7]; omega)).mono ?_; rintro e w8 ⟨v8, rfl, hE8⟩; have hE8b := hE8.bel))
  all_goals
    go_wp2
    go_ret
    refine ⟨.node t6 q.rs q.hid t7 0, v8, rfl, ?_, ?_, ?_, ?_⟩
    · exact (show Env K w0 w8 _ ps bs from ⟨hE8.t, hE8.p, hE8.b, h.bel.trans (hE8.bel.mono h.bel.size), hE8.up⟩).sub (sub_keep fun y hy => u2 hy) (fun y hy => hy) (fun y hy => hy)
    · rw [cells_knot, hc6, hc7, HPS.out]; rfl
    · show hgt m ≤ 1 + max t6.ht t7.ht; omega
    · show 1 + max t6.ht t7.ht ≤ hgt m; omega
theorem build_all : ∀ n, BuildTo n
  | 0 => by
    intro h qs A c hq hA hc hn hsz hl
    obtain rfl : qs = [] := List.eq_nil_of_length_eq_zero (Nat.le_zero.1 hn)
    exact build_nil h A c
  | n + 1 => by
    intro h qs A c hq hA hc hn hsz hl
    by_cases h0 : qs.length = 0
    · obtain rfl : qs = [] := List.eq_nil_of_length_eq_zero h0
      exact build_nil h A c
    · exact build_node (build_all n) h qs A c hq hA hc hn hsz hl (Nat.pos_of_ne_zero h0)
theorem build_env {K : Nat → Prop} {w0 W : World} {ts : List (Tree × Value)} {ps : List Pc} {bs : List (Nat × Obj)} (h : Env K w0 W ts ps bs) {qs : List Pc} {A : Option Addr} {c : Nat} (hq : ∀ q ∈ qs, q ∈ ps) (hA : PcsAt W A qs) (hc : qs.length ≤ c) (hsz : (pcells qs).length ≤ 1073741824) (hl : qs.length ≤ 1073741824) : Calls Tryd.prog 57 #[.slice A qs.length c] W (Made K w0 ts ps bs (pcells qs) (hgt qs.length) (hgt qs.length)) :=
  build_all _ h qs A c hq hA hc (Nat.le_refl _) hsz hl
end Go.Proofs.YteeigokkafcaaaaDoorRope
end
section
namespace Go.Proofs.YteeigokkafcaaaaDoorRope
open Go.RowKit Go.Proofs.YteeigokkafcaaaaDoorW.PrintWords Go.Proofs.YteeigokkafcaaaaDoorW.PrintMore Go.Proofs.YteeigokkafcaaaaDoor.Pr
set_option linter.unusedSimpArgs false
set_option linter.unusedVariables false
def cutP (l : List Int) (h : Int) (n i : Nat) : S113 := ⟨(l.take ((i + 1) * l.length / n)).drop (i * l.length / n), h⟩
theorem tdiv_nat (a b : Nat) : Int.tdiv (a : Int) (b : Int) = ((a / b : Nat) : Int) := by
  rw [Int.tdiv_eq_ediv_of_nonneg (by omega)]; rfl
theorem cut_bound {L n i : Nat} (hL : L ≤ 1073741824) (hn : n ≤ L) (hi : i ≤ n) : i * L ≤ 1152921504606846976 :=
  Nat.le_trans (Nat.mul_le_mul (Nat.le_trans hi hn) (Nat.le_refl L)) (Nat.le_trans (Nat.mul_le_mul hL hL) (by decide))
theorem cut_le {L n i : Nat} (h0 : 0 < n) (hi : i ≤ n) : i * L / n ≤ L := by
  calc i * L / n ≤ n * L / n := Nat.div_le_div_right (Nat.mul_le_mul_right L hi)
    _ = L := Nat.mul_div_cancel_left L h0
set_option maxHeartbeats 1000000 in
theorem cut_l0 {l : List Int} {h : Int} {n : Nat} (h0 : 0 < n) (hL : l.length ≤ 1073741824) (hn : n ≤ l.length) : ∀ (j i : Nat) (acc : List S113), i + j = n → acc.length + j ≤ 4398046511103 → rope_cutUp.l0 (j + 1) l h n acc n i = some (acc ++ (List.range' i j).map (cutP l h n)) := by
  intro j
  induction j with
  | zero =>
    intro i acc hi _
    unfold rope_cutUp.l0
    rw [if_neg (by omega)]
    simp
  | succ j ih =>
    intro i acc hi ha
    have b1 := cut_bound (i := i) hL hn (by omega)
    have b2 := cut_bound (i := i + 1) hL hn (by omega)
    have d1 := cut_le (L := l.length) (i := i) h0 (by omega)
    have d2 := cut_le (L := l.length) (i := i + 1) h0 (by omega)
    have d3 : i * l.length / n ≤ (i + 1) * l.length / n := Nat.div_le_div_right (Nat.mul_le_mul_right _ (by omega))
    have hr : (List.range' i (j + 1)).map (cutP l h n) = ⟨(l.take ((i + 1) * l.length / n)).drop (i * l.length / n), h⟩ :: (List.range' (i + 1) j).map (cutP l h n) := by rw [List.range'_succ]; rfl
    rw [hr]
    clear hr
    obtain ⟨p, hp⟩ : ∃ p, p = i * l.length := ⟨_, rfl⟩
    obtain ⟨q, hq⟩ : ∃ q, q = (i + 1) * l.length := ⟨_, rfl⟩
    rw [← hp] at b1 d1 d3
    rw [← hq] at b2 d2 d3
    rw [← hp, ← hq]
    have e1 : wrap64 ((i : Int) * (l.length : Int)) = (p : Int) := by rw [← Int.natCast_mul, ← hp]; exact w64 (by omega) (by omega)
    have e2 : wrap64 ((i : Int) + 1) = ((i + 1 : Nat) : Int) := by rw [show ((i : Int) + 1) = ((i + 1 : Nat) : Int) by omega]; exact w64 (by omega) (by omega)
    have e3 : wrap64 (((i + 1 : Nat) : Int) * (l.length : Int)) = (q : Int) := by rw [← Int.natCast_mul, ← hq]; exact w64 (by omega) (by omega)
    obtain ⟨x, hx⟩ : ∃ x, x = p / n := ⟨_, rfl⟩
    obtain ⟨y, hy⟩ : ∃ y, y = q / n := ⟨_, rfl⟩
    rw [← hx] at d1 d3
    rw [← hy] at d2 d3
    rw [← hx, ← hy]
    have e4 : wrap64 (Int.tdiv (p : Int) (n : Int)) = (x : Int) := by rw [tdiv_nat, ← hx]; exact w64 (by omega) (by omega)
    have e5 : wrap64 (Int.tdiv (q : Int) (n : Int)) = (y : Int) := by rw [tdiv_nat, ← hy]; exact w64 (by omega) (by omega)
    have ha' : (acc ++ [(⟨(l.take y).drop x, h⟩ : S113)]).length + j ≤ 4398046511103 := by rw [List.length_append, List.length_singleton]; omega
    have hij : i + 1 + j = n := by omega
    have c1 : (i : Int) < (n : Int) := by omega
    have c2 : ¬ ((n : Int) = 0) := fun e => Nat.lt_irrefl 0 (by rw [Int.natCast_eq_zero.1 e] at h0; exact h0)
    have c3 : (0 : Int) ≤ (x : Int) := Int.natCast_nonneg x
    have c4 : (x : Int) ≤ (y : Int) := Int.ofNat_le.2 d3
    have c5 : (y : Int) ≤ (l.length : Int) := Int.ofNat_le.2 d2
    have c6 : acc.length < 4398046511104 := Nat.lt_of_le_of_lt (Nat.le_trans (Nat.le_add_right _ _) ha) (by decide)
    have hI := ih (i + 1) (acc ++ [⟨(l.take y).drop x, h⟩]) hij ha'
    clear ih ha ha' hij b1 b2 d1 d2 d3 hp hq hx hy hL hn h0 hi
    obtain ⟨k, hk⟩ : ∃ k, k = j + 1 := ⟨_, rfl⟩
    rw [← hk] at hI ⊢
    clear hk
    rw [rope_cutUp.l0]
    generalize (4398046511104 : Nat) = M at c6 ⊢
    rw [e1, e2, e3, e4, e5, if_pos c1, if_neg c2, if_pos c3, if_pos c4, if_pos c5, if_pos c6, Int.toNat_natCast, Int.toNat_natCast]
    rw [hI, List.append_assoc]
    rfl
def scells (r : List S113) : List (Int × Int) := r.flatMap fun x => x.f0.map fun c => (c, x.f1)
theorem take_take_drop {α : Type} (l : List α) {a b : Nat} (h : a ≤ b) : l.take a ++ (l.take b).drop a = l.take b := by
  conv => rhs; rw [← List.take_append_drop a (l.take b)]
  rw [List.take_take, Nat.min_eq_left h]
theorem cut_cells {l : List Int} {h : Int} {n : Nat} (h0 : 0 < n) : ∀ (j : Nat), scells ((List.range' 0 j).map (cutP l h n)) = (l.take (j * l.length / n)).map fun c => (c, h) := by
  intro j
  induction j with
  | zero => simp [scells]
  | succ j ih =>
    have d3 : j * l.length / n ≤ (j + 1) * l.length / n := Nat.div_le_div_right (Nat.mul_le_mul_right _ (by omega))
    rw [List.range'_1_concat, List.map_append]
    have e : scells ((List.range' 0 j).map (cutP l h n) ++ [0 + j].map (cutP l h n)) = scells ((List.range' 0 j).map (cutP l h n)) ++ ((l.take ((j + 1) * l.length / n)).drop (j * l.length / n)).map fun c => (c, h) := by
      simp [scells, cutP]
    rw [e, ih, ← List.map_append, take_take_drop l d3]
theorem cutUp_law (l : List Int) (h : Int) (hL : l.length ≤ 1073741824) : ∃ k r, rope_cutUp.f k l h = some r ∧ scells r = l.map (fun c => (c, h)) ∧ (∀ x ∈ r, x.f0 ≠ [] ∧ x.f0.length ≤ 64 ∧ x.f1 = h) ∧ r.length ≤ l.length := by
  obtain ⟨n, hn⟩ : ∃ n, n = (l.length + 63) / 64 := ⟨_, rfl⟩
  have e : wrap64 (Int.tdiv (wrap64 ((wrap64 ((l.length : Int) + 64)) - 1)) 64) = (n : Int) := by
    have e1 : wrap64 ((l.length : Int) + 64) = ((l.length + 64 : Nat) : Int) := by rw [show ((l.length : Int) + 64) = ((l.length + 64 : Nat) : Int) by omega]; exact w64 (by omega) (by omega)
    have e2 : wrap64 (((l.length + 64 : Nat) : Int) - 1) = ((l.length + 63 : Nat) : Int) := by rw [show (((l.length + 64 : Nat) : Int) - 1) = ((l.length + 63 : Nat) : Int) by omega]; exact w64 (by omega) (by omega)
    rw [e1, e2, show (64 : Int) = ((64 : Nat) : Int) from rfl, tdiv_nat, ← hn]
    exact w64 (by omega) (by omega)
  by_cases h0 : n = 0
  · subst h0
    have hl : l = [] := List.eq_nil_of_length_eq_zero (by omega)
    refine ⟨1, [], ?_, by rw [hl]; rfl, by simp, by simp⟩
    unfold rope_cutUp.f
    rw [e]
    rfl
  · have hp : 0 < n := Nat.pos_of_ne_zero h0
    have hnl : n ≤ l.length := by omega
    refine ⟨n + 1, (List.range' 0 n).map (cutP l h n), ?_, ?_, ?_, by simp; exact hnl⟩
    · unfold rope_cutUp.f
      rw [e]
      have := cut_l0 (l := l) (h := h) hp hL hnl n 0 [] (by omega) (by simp; omega)
      simpa using this
    · rw [cut_cells hp, Nat.mul_div_cancel_left _ hp, List.take_length]
    · intro x hx
      obtain ⟨i, hi, rfl⟩ := List.mem_map.1 hx
      have hin : i < n := by have := List.mem_range'.1 hi; omega
      have d2 := cut_le (L := l.length) (i := i + 1) hp (by omega)
      have hm : (i + 1) * l.length = i * l.length + l.length := by rw [Nat.add_mul, Nat.one_mul]
      have g1 : i * l.length / n + 1 ≤ (i + 1) * l.length / n := by
        rw [← Nat.add_div_right _ hp]
        exact Nat.div_le_div_right (by omega)
      have g2 : (i + 1) * l.length / n ≤ i * l.length / n + 64 := by
        have : (i + 1) * l.length ≤ i * l.length + 64 * n := by omega
        calc (i + 1) * l.length / n ≤ (i * l.length + 64 * n) / n := Nat.div_le_div_right this
          _ = i * l.length / n + 64 := by rw [Nat.add_mul_div_right _ _ hp]
      have hlen : (cutP l h n i).f0.length = (i + 1) * l.length / n - i * l.length / n := by
        show ((l.take ((i + 1) * l.length / n)).drop (i * l.length / n)).length = _
        rw [List.length_drop, List.length_take, Nat.min_eq_left d2]
      refine ⟨fun e => ?_, by omega, rfl⟩
      rw [e] at hlen
      simp at hlen
      omega
end Go.Proofs.YteeigokkafcaaaaDoorRope
end
