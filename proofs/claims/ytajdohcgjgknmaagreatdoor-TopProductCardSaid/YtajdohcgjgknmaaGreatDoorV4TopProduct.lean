/- Part 4 of what the proof of TopProduct stands on. -/
import Derived.Test.YtajdohcgjgknmaaGreatDoorV3TopProduct
import Derived.OwnWalk
namespace Go.Proofs.YtajdohcgjgknmaaGreatDoor
namespace Top
open Globe Go.Proofs.YtajdohcgjgknmaaGreatDoor.Prod
structure Item where
 (su ca re : List Int) (im t : Int) (cl : Bool)
instance : Inhabited Item := ⟨⟨[], [], [], 0, 0, false⟩⟩
def Item.pc (y : Item) : Pc := { im := y.im, t := y.t, cl := y.cl, rw := y.su }
def Item.st (y : Item) : List Int × List Int := (y.su, y.ca)
structure OkI (k : Nat) (y : Item) : Prop where
 im : y.im = (k : Int)
 t0 : 0 ≤ y.t
 t1 : y.t ≤ 1000000
 su : validL y.su = true
 ca : validL y.ca = true
 re : validL y.re = true
 cs : containsB y.ca y.su = true
 rs : containsB y.re y.su = true
structure All (ys : List Item) : Prop where
 len : ys.length ≤ 8
 ok : ∀ k y, ys[k]? = some y → OkI k y
theorem All.nil : All [] := ⟨Nat.zero_le _, fun k y h => by simp at h⟩
theorem All.snoc {ys : List Item} {y : Item} (h : All ys) (hl : ys.length < 8) (hy : OkI ys.length y) : All (ys ++ [y]) :=
  ⟨by simp; omega, fun k x hx => by
    rcases Nat.lt_or_ge k ys.length with q | q
    · rw [List.getElem?_append_left q] at hx; exact h.ok k x hx
    · rw [List.getElem?_append_right q] at hx
      obtain ⟨h1, h2⟩ := List.getElem?_eq_some_iff.1 hx
      have e : k = ys.length := by simp at h1; omega
      subst e
      simp at h2; subst h2; exact hy⟩
section
variable {ys : List Item} (h : All ys)
include h
theorem All.mem {y : Item} (hy : y ∈ ys) : ∃ k, k < 8 ∧ OkI k y := by
 obtain ⟨k, hk⟩ := List.getElem?_of_mem hy
 have := (List.getElem?_eq_some_iff.1 hk).1
 have := h.len
 exact ⟨k, by omega, h.ok k y hk⟩
theorem strips_ok : stripsOk (ys.map Item.st) = true := by
 unfold stripsOk
 rw [Bool.and_eq_true, decide_eq_true_eq, List.length_map, List.all_eq_true]
 refine ⟨by have := h.len; omega, fun s hs => ?_⟩
 obtain ⟨y, hy, rfl⟩ := List.mem_map.1 hs
 obtain ⟨k, _, o⟩ := h.mem hy
 unfold stripOk Item.st
 rw [o.su, o.cs]; rfl
theorem okP_of {y : Item} (hy : y ∈ ys) : okP y.pc = true := by
 obtain ⟨k, hk, o⟩ := h.mem hy
 have := o.im
 exact okP_t.2 ⟨⟨by show 0 ≤ y.im; omega, by show y.im ≤ 999; omega⟩, ⟨o.t0, o.t1⟩, o.su⟩
theorem okP_all : ∀ p ∈ ys.map Item.pc, okP p = true := fun p hp => by
 obtain ⟨y, hy, rfl⟩ := List.mem_map.1 hp; exact okP_of h hy
theorem good : Prod.goodL (ys.map Item.pc) = true := goodL_of (okP_all h) <| by
 unfold Dist
 rw [List.pairwise_iff_getElem]
 intro i j hi hj hij
 simp only [List.getElem_map]
 have h1 := (h.ok i _ (List.getElem?_eq_getElem (by simpa using hi))).im
 have h2 := (h.ok j _ (List.getElem?_eq_getElem (by simpa using hj))).im
 show (ys[i]'(by simpa using hi)).im ≠ (ys[j]'(by simpa using hj)).im
 rw [h1, h2]; omega
variable {A : List Int} (hA : validL A = true)
include hA
theorem build_yes : buildOk 1 A (ys.map Item.pc) = true := build_ok ⟨by omega, by omega⟩ hA (good h) (by rw [List.length_map]; have := h.len; omega)
theorem prod_ok : validP 1 1 A (divide A (ys.map Item.pc)) = true := divide_valid ⟨by omega, by omega⟩ ⟨by omega, by omega⟩ hA (okP_all h) (goodL_dist (good h)) (by rw [List.length_map]; have := h.len; omega)
omit h in
theorem rest_div (l : List Pc) : rest A (divide A l) = rest A l :=
 ext_iff (rest_valid _ hA) (rest_valid _ hA) fun x y hx hy => by
  rw [has_rest_div hx hy hA, has_rest hy]
omit h in
theorem rest_left : rest A (divide A (ys.map Item.pc)) = leftL A ((ys.map Item.st).map fun s => s.1) := by
 rw [rest_div hA]
 unfold rest
 rw [List.map_map, List.map_map]; rfl
theorem complete_eq : (validP 1 1 A (divide A (ys.map Item.pc)) && noC (rest A (divide A (ys.map Item.pc)))) = (fewestL (enough A ((ys.map Item.st).map fun s => s.1)) ys.length).isSome := by
 have := fewest_isSome hA (ss := (ys.map Item.st).map fun s => s.1)
 rw [List.length_map, List.length_map] at this
 rw [prod_ok h hA, rest_left hA, this]; rfl
theorem from_none {p : Nat × Nat} (hp : p ∈ cellsTo A 24) (hf : (divide A (ys.map Item.pc)).find? (fun q => hasB q.rw ((p.1 : Nat) : Int) ((p.2 : Nat) : Int)) = none) : hasL (rest A (divide A (ys.map Item.pc))) p.1 p.2 = true := by
 obtain ⟨h1, h2, h3⟩ := mem_cells.1 hp
 exact rest_none h2 h1 hA h3 (okP_all h) hf
theorem from_some {p : Nat × Nat} {x : Pc} (hp : p ∈ cellsTo A 24) (hf : (divide A (ys.map Item.pc)).find? (fun q => hasB q.rw ((p.1 : Nat) : Int) ((p.2 : Nat) : Int)) = some x) :
  hasL (rest A (divide A (ys.map Item.pc))) p.1 p.2 = false ∧ ∃ (k : Nat) (y : Item), ys[k]? = some y ∧ x.im = (k : Int) ∧ k < ys.length ∧ hasL y.re p.1 p.2 = true := by
 obtain ⟨h1, h2, h3⟩ := mem_cells.1 hp
 refine ⟨rest_some h2 h1 hA (okP_all h) hf, ?_⟩
 obtain ⟨hx, hh⟩ := (find_has h2 h1 (divide_ok hA (okP_all h))).1 x hf
 obtain ⟨q, hq, him, _, _, hc⟩ := divide_from hx
 obtain ⟨y, hy, rfl⟩ := List.mem_map.1 hq
 obtain ⟨k, hk⟩ := List.getElem?_of_mem hy
 have o := h.ok k y hk
 exact ⟨k, y, hk, him.trans o.im, (List.getElem?_eq_some_iff.1 hk).1, contains_has o.rs h2 h1 (hc _ _ h1 hh).1⟩
end
theorem asc_pw {n : Nat} : ∀ {l : List Nat} {s : Nat}, asc n s l → l.Pairwise (· < ·) ∧ ∀ i ∈ l, s ≤ i
 | [], _, _ => ⟨List.Pairwise.nil, fun i hi => by cases hi⟩
 | a :: r, s, h => by
  obtain ⟨h1, h2, h3⟩ := h
  obtain ⟨k1, k2⟩ := asc_pw h3
  refine ⟨List.pairwise_cons.2 ⟨fun i hi => by have := k2 i hi; omega, k1⟩, fun i hi => ?_⟩
  rcases List.mem_cons.1 hi with rfl | hi
  · exact h1
  · have := k2 i hi; omega
def cho (ys : List Item) (l : List Nat) : List Pc := l.map fun j => (ys[j]?.getD default).pc
section
variable {ys : List Item} (h : All ys) {A : List Int} (hA : validL A = true) {l : List Nat} (hl : fewestL (enough A ((ys.map Item.st).map fun s => s.1)) ys.length = some l)
include h hl
omit h in
theorem cho_lt : ∀ j ∈ l, j < ys.length := asc_lt (fewest_some hl).2.1
theorem cho_len : l.length ≤ 8 := T (fewest_some hl).2.2.1 h.len
theorem cho_mem {p : Pc} (hp : p ∈ cho ys l) : okP p = true := by
 obtain ⟨j, hj, rfl⟩ := List.mem_map.1 hp
 have hlt := cho_lt hl j hj
 rw [List.getElem?_eq_getElem hlt]
 exact okP_of h (List.getElem_mem hlt)
theorem cho_good : Prod.goodL (cho ys l) = true := goodL_of (fun _ hp => cho_mem h hl hp) <| by
 unfold Dist cho
 rw [List.pairwise_map]
 refine List.Pairwise.imp_of_mem ?_ (asc_pw (fewest_some hl).2.1).1
 intro i j hi hj hij
 have h1 := (h.ok i _ (List.getElem?_eq_getElem (cho_lt hl i hi))).im
 have h2 := (h.ok j _ (List.getElem?_eq_getElem (cho_lt hl j hj))).im
 rw [List.getElem?_eq_getElem (cho_lt hl i hi), List.getElem?_eq_getElem (cho_lt hl j hj)]
 show (ys[i]'(cho_lt hl i hi)).im ≠ (ys[j]'(cho_lt hl j hj)).im
 rw [h1, h2]; omega
include hA
theorem cho_build : buildOk 1 A (cho ys l) = true := build_ok ⟨by omega, by omega⟩ hA (cho_good h hl) (by unfold cho; rw [List.length_map]; have := cho_len h hl; omega)
theorem cho_complete : (validP 1 1 A (divide A (cho ys l)) && noC (rest A (divide A (cho ys l)))) = true := by
  rw [divide_valid ⟨by omega, by omega⟩ ⟨by omega, by omega⟩ hA (fun _ hp => cho_mem h hl hp) (goodL_dist (cho_good h hl)) (by unfold cho; rw [List.length_map]; have := cho_len h hl; omega), Bool.true_and, noC_iff (rest_valid _ hA)]
  intro x y hx hy
  rw [has_rest_div hx hy hA]
  cases hc : hasL A x y
  · rfl
  · obtain ⟨i, hi, hs⟩ := (enough_iff hA).1 (fewest_some hl).1 x y hx hy hc
    rw [Bool.true_and, ← Bool.not_eq_true, List.all_eq_true]
    intro hall
    have hlt := cho_lt hl i hi
    have := hall _ (List.mem_map.2 ⟨i, hi, rfl⟩)
    rw [List.getElem?_eq_getElem hlt] at this
    unfold sureAt at hs
    rw [List.getElem?_map, List.getElem?_map, List.getElem?_eq_getElem hlt] at hs
    have hs' : hasL (ys[i]).su x y = true := hs
    have h' : (!hasL (ys[i]).su x y) = true := this
    rw [hs'] at h'; cases h'
end
end Top
end Go.Proofs.YtajdohcgjgknmaaGreatDoor

namespace Go.Proofs.YtajdohcgjgknmaaGreatDoor
open Go.RowKit
def RetF (w : World) (L : List Int) (e : Ending) (w' : World) : Prop :=
 ∃ B k : Nat, e = .returned (.agg #[.slice (some ⟨B, 0, none⟩) 24 k]) ∧ w.heap.size ≤ B ∧ VA w' B 0 L ∧ Ext w w'
def RetO (w : World) (b : Nat) (L : List Int) (e : Ending) (w' : World) : Prop :=
 ∃ B o k : Nat, e = .returned (.agg #[.slice (some ⟨B, o, none⟩) 24 k]) ∧ VA w' B o L ∧ (B = b ∨ w.heap.size ≤ B) ∧ Ext w w'
theorem VA.other {w : World} {b o : Nat} {l : List Int} (h : VA w b o l) {p : Addr} (hp : p.block ≠ b) (v : Value) : VA (w.setCell p v) b o l :=
 ⟨fun i hi => by rw [World.cell?_setCell_other w _ _ _ (fun e => hp (by rw [e]))]; exact h.1 i hi, h.2⟩
set_option maxHeartbeats 1000000 in
theorem less_v {w1 w2 : World} {b1 o1 b2 o2 : Nat} (c1 c2 : Nat) {l1 l2 : List Int} (w : World) (h1 : VA w1 b1 o1 l1) (e1 : Ext w1 w) (h2 : VA w2 b2 o2 l2) (e2 : Ext w2 w) :
  Calls Tryz.prog 55 #[.agg #[.slice (some ⟨b1, o1, none⟩) 24 c1], .agg #[.slice (some ⟨b2, o2, none⟩) 24 c2]] w (RetF w (Globe.lessL l1 l2)) := by
 have H1 := Lib.hid (h1.ext e1)
 have H2 := Lib.hid (h2.ext e2)
 clear h1 h2 e1 e2
 go_enter Tryz.func55, Tryz.ntmps55
 go_wp2_with (go_at_call 47; refine (Less_v _ _ _ H1.out (by (repeat' (first | (with_reducible assumption) | (with_reducible exact Ext.refl _) | (with_reducible refine Ext.alloc ?_ _) | (with_reducible refine Ext.drew ?_) | (with_reducible refine Ext.drewN ?_ _) | (with_reducible refine Ext.setCell ?_ ?_ _) | (with_reducible refine Ext.trans ?_ (by assumption)) | go_size))) H2.out (by (repeat' (first | (with_reducible assumption) | (with_reducible exact Ext.refl _) | (with_reducible refine Ext.alloc ?_ _) | (with_reducible refine Ext.drew ?_) | (with_reducible refine Ext.drewN ?_ _) | (with_reducible refine Ext.setCell ?_ ?_ _) | (with_reducible refine Ext.trans ?_ (by assumption)) | go_size)))).mono ?_; rintro e w1 ⟨B, k, rfl, hB, -, hv, hb⟩; have hc := hb.cellE; have hf := hb.frozenE; have hz := hb.size; have ha := alloc_keeps w1; (try simp only [World.size_alloc] at hc hf hz); (try simp only [World.size_setCell] at hc hf hz); (try simp only [World.size_drew] at hc hf hz))
 have hB2 : w.heap.size + 1 + 1 < B := by simp at hB; omega
 refine bodyPost_ret (v := .agg #[.slice (some ⟨B, 0, none⟩) 24 k]) (by simp [results, Tryz.results55, go_sem, hc, ha]) rfl ⟨B, k, rfl, by omega, ?_, by (repeat' (first | (with_reducible assumption) | (with_reducible exact Ext.refl _) | (with_reducible refine Ext.alloc ?_ _) | (with_reducible refine Ext.drew ?_) | (with_reducible refine Ext.drewN ?_ _) | (with_reducible refine Ext.setCell ?_ ?_ _) | (with_reducible refine Ext.trans ?_ (by assumption)) | go_size))⟩
 refine VA.other (hv.ext (by (repeat' (first | (with_reducible assumption) | (with_reducible exact Ext.refl _) | (with_reducible refine Ext.alloc ?_ _) | (with_reducible refine Ext.drew ?_) | (with_reducible refine Ext.drewN ?_ _) | (with_reducible refine Ext.setCell ?_ ?_ _) | (with_reducible refine Ext.trans ?_ (by assumption)) | go_size)))) (by show w.heap.size + 1 + 1 ≠ B; omega) _
set_option maxHeartbeats 1000000 in
theorem copied_v {w0 : World} {b o : Nat} (c : Nat) {l : List Int} (w : World) (h : VA w0 b o l) (hE : Ext w0 w) :
  Calls Tryz.prog 53 #[.agg #[.slice (some ⟨b, o, none⟩) 24 c]] w (RetF w l) := by
 have H := Lib.hid (h.ext hE)
 clear h hE
 go_enter Tryz.func53, Tryz.ntmps53
 go_wp2_with (go_at_call 61; refine (Clone_v _ _ H.out (by (repeat' (first | (with_reducible assumption) | (with_reducible exact Ext.refl _) | (with_reducible refine Ext.alloc ?_ _) | (with_reducible refine Ext.drew ?_) | (with_reducible refine Ext.drewN ?_ _) | (with_reducible refine Ext.setCell ?_ ?_ _) | (with_reducible refine Ext.trans ?_ (by assumption)) | go_size)))).mono ?_; rintro e w1 ⟨B, k, rfl, hB, hr, hb⟩; have hc := hb.cellE; have hf := hb.frozenE; have hz := hb.size; have ha := alloc_keeps w1; (try simp only [World.size_alloc] at hc hf hz); (try simp only [World.size_setCell] at hc hf hz); (try simp only [World.size_drew] at hc hf hz))
 have hB2 : w.heap.size + 1 < B := by simp at hB; omega
 refine bodyPost_ret (v := .agg #[.slice (some ⟨B, 0, none⟩) 24 k]) (by simp [results, Tryz.results53, go_sem, hc]) rfl ⟨B, k, rfl, by omega, ?_, by (repeat' (first | (with_reducible assumption) | (with_reducible exact Ext.refl _) | (with_reducible refine Ext.alloc ?_ _) | (with_reducible refine Ext.drew ?_) | (with_reducible refine Ext.drewN ?_ _) | (with_reducible refine Ext.setCell ?_ ?_ _) | (with_reducible refine Ext.trans ?_ (by assumption)) | go_size))⟩
 refine VA.other ((hr.va H.out.2).ext (by (repeat' (first | (with_reducible assumption) | (with_reducible exact Ext.refl _) | (with_reducible refine Ext.alloc ?_ _) | (with_reducible refine Ext.drew ?_) | (with_reducible refine Ext.drewN ?_ _) | (with_reducible refine Ext.setCell ?_ ?_ _) | (with_reducible refine Ext.trans ?_ (by assumption)) | go_size)))) (by show w.heap.size + 1 ≠ B; omega) _
def StripAt (w : World) (b i : Nat) (s : List Int × List Int) : Prop :=
 ∃ (a1 : Option Addr) (n1 c1 : Nat) (v1 : Bool) (a2 : Option Addr) (n2 c2 : Nat) (v2 : Bool), w.cell? ⟨b, i, none⟩ = some (.slice a1 n1 c1) ∧ AA w a1 s.1 n1 v1 ∧ w.cell? ⟨b, i + 1, none⟩ = some (.slice a2 n2 c2) ∧ AA w a2 s.2 n2 v2
theorem StripAt.ext {w w' : World} {b i : Nat} {s : List Int × List Int} (h : StripAt w b i s) (hE : Ext w w') : StripAt w' b i s := by
 obtain ⟨a1, n1, c1, v1, a2, n2, c2, v2, h1, h2, h3, h4⟩ := h
 exact ⟨a1, n1, c1, v1, a2, n2, c2, v2, hE.cell h1, h2.ext hE, hE.cell h3, h4.ext hE⟩
def StripsAt (w : World) (a : Option Addr) (n : Nat) (ss : List (List Int × List Int)) : Prop :=
 ss.length = n ∧ n ≤ 140737488355328 ∧ (n = 0 ∨ ∃ b off, a = some ⟨b, off, none⟩ ∧ ∀ i s, ss[i]? = some s → StripAt w b (off + i * 2) s)
theorem StripsAt.ext {w w' : World} {a : Option Addr} {n : Nat} {ss : List (List Int × List Int)} (h : StripsAt w a n ss) (hE : Ext w w') : StripsAt w' a n ss :=
 ⟨h.1, h.2.1, h.2.2.imp id fun ⟨b, off, ha, hc⟩ => ⟨b, off, ha, fun i s hs => (hc i s hs).ext hE⟩⟩
theorem StripsAt.at {w : World} {a : Option Addr} {n : Nat} {ss : List (List Int × List Int)} (h : StripsAt w a n ss) {i : Nat} (hi : i < n) :
  ∃ b off s, a = some ⟨b, off, none⟩ ∧ ss[i]? = some s ∧ StripAt w b (off + i * 2) s := by
 obtain ⟨b, off, rfl, hc⟩ := h.2.2.resolve_left (by omega)
 have hs : ss[i]? = some (ss[i]'(by rw [h.1]; exact hi)) := List.getElem?_eq_getElem _
 exact ⟨b, off, _, rfl, hs, hc i _ hs⟩
theorem ValidS1_t {w1 w2 : World} {a1 a2 : Option Addr} {l1 l2 : List Int} {n1 n2 : Nat} {v1 v2 : Bool} (c1 c2 : Nat) (w : World) (h1 : AA w1 a1 l1 n1 v1) (e1 : Ext w1 w) (h2 : AA w2 a2 l2 n2 v2) (e2 : Ext w2 w) :
    Calls Tryz.prog 102 #[.agg #[.slice a1 n1 c1, .slice a2 n2 c2]] w fun e w' => e = .returned (.bool (!Globe.stripOk (l1, l2))) ∧ Ext w w' := by
  replace h1 := h1.ext e1; replace h2 := h2.ext e2; clear e1 e2
  cases v1
  · have hq : Globe.stripOk (l1, l2) = false := by simp [Globe.stripOk, h1.2.2.2]
    have Hq := Lib.hid hq; clear hq
    go_enter Tryz.func102, Tryz.ntmps102
    go_wp2_with (go_at_call 50; refine (Valid_e _ _ h1 (by (repeat' (first | (with_reducible assumption) | (with_reducible exact Ext.refl _) | (with_reducible refine Ext.alloc ?_ _) | (with_reducible refine Ext.drew ?_) | (with_reducible refine Ext.drewN ?_ _) | (with_reducible refine Ext.setCell ?_ ?_ _) | (with_reducible refine Ext.trans ?_ (by assumption)) | go_size)))).mono ?_; rintro e w1 ⟨rfl, hb⟩; have hc := hb.cellE; have hf := hb.frozenE; have hz := hb.size; have ha := alloc_keeps w1; (try simp only [World.size_alloc] at hc hf hz); (try simp only [World.size_setCell] at hc hf hz); (try simp only [World.size_drew] at hc hf hz))
    go_ret
    exact ⟨ret_bool (by rw [Hq.out]; rfl), by (repeat' (first | (with_reducible assumption) | (with_reducible exact Ext.refl _) | (with_reducible refine Ext.alloc ?_ _) | (with_reducible refine Ext.drew ?_) | (with_reducible refine Ext.drewN ?_ _) | (with_reducible refine Ext.setCell ?_ ?_ _) | (with_reducible refine Ext.trans ?_ (by assumption)) | go_size))⟩
  · cases hc2 : Globe.containsB l2 l1
    all_goals
      have hq : Globe.stripOk (l1, l2) = Globe.containsB l2 l1 := by simp [Globe.stripOk, h1.2.2.2]
      rw [hc2] at hq
      have Hq := Lib.hid hq; clear hq
      have Hc := Lib.hid hc2; clear hc2
      go_enter Tryz.func102, Tryz.ntmps102
      go_wp2_with (first | (go_at_call 50; refine (Valid_e _ _ h1 (by (repeat' (first | (with_reducible assumption) | (with_reducible exact Ext.refl _) | (with_reducible refine Ext.alloc ?_ _) | (with_reducible refine Ext.drew ?_) | (with_reducible refine Ext.drewN ?_ _) | (with_reducible refine Ext.setCell ?_ ?_ _) | (with_reducible refine Ext.trans ?_ (by assumption)) | go_size)))).mono ?_; rintro e w1 ⟨rfl, hb⟩; have hc := hb.cellE; have hf := hb.frozenE; have hz := hb.size; have ha := alloc_keeps w1; (try simp only [World.size_alloc] at hc hf hz); (try simp only [World.size_setCell] at hc hf hz); (try simp only [World.size_drew] at hc hf hz)) | (go_at_call 10; refine (Contains_c _ _ _ h2 (by (repeat' (first | (with_reducible assumption) | (with_reducible exact Ext.refl _) | (with_reducible refine Ext.alloc ?_ _) | (with_reducible refine Ext.drew ?_) | (with_reducible refine Ext.drewN ?_ _) | (with_reducible refine Ext.setCell ?_ ?_ _) | (with_reducible refine Ext.trans ?_ (by assumption)) | go_size))) h1 (by (repeat' (first | (with_reducible assumption) | (with_reducible exact Ext.refl _) | (with_reducible refine Ext.alloc ?_ _) | (with_reducible refine Ext.drew ?_) | (with_reducible refine Ext.drewN ?_ _) | (with_reducible refine Ext.setCell ?_ ?_ _) | (with_reducible refine Ext.trans ?_ (by assumption)) | go_size)))).mono ?_; rintro e w2 ⟨rfl, hb2⟩; rw [Hc.out]))
      go_ret
      exact ⟨ret_bool (by rw [Hq.out]; rfl), by (repeat' (first | (with_reducible assumption) | (with_reducible exact Ext.refl _) | (with_reducible refine Ext.alloc ?_ _) | (with_reducible refine Ext.drew ?_) | (with_reducible refine Ext.drewN ?_ _) | (with_reducible refine Ext.setCell ?_ ?_ _) | (with_reducible refine Ext.trans ?_ (by assumption)) | go_size))⟩
end Go.Proofs.YtajdohcgjgknmaaGreatDoor

namespace Go.Proofs.YtajdohcgjgknmaaGreatDoor
structure Orb where
 (p f lo hi nd tn sl : Int)
namespace Orb
open Globe
def ok (o : Orb) : Bool := (inB o.p 20 2000 && (o.p.tmod 2 == 0) && inB o.f 0 (o.p - 1)) && (inB o.lo 0 23999 && inB o.hi 0 23999 && decide (o.lo < o.hi)) && inB o.nd 0 47999 && inB o.tn (-2000) 2000 && inB o.sl 0 10
theorem ok_t {o : Orb} : ok o = true ↔ (20 ≤ o.p ∧ o.p ≤ 2000 ∧ o.p.tmod 2 = 0) ∧ (0 ≤ o.f ∧ o.f ≤ o.p - 1) ∧ (0 ≤ o.lo ∧ o.lo ≤ 23999) ∧ (0 ≤ o.hi ∧ o.hi ≤ 23999) ∧ o.lo < o.hi ∧ (0 ≤ o.nd ∧ o.nd ≤ 47999) ∧ (-2000 ≤ o.tn ∧ o.tn ≤ 2000) ∧ 0 ≤ o.sl ∧ o.sl ≤ 10 := by
 unfold ok
 simp only [Bool.and_eq_true, inB_t, beq_iff_eq, decide_eq_true_eq]
 constructor
 · rintro ⟨⟨⟨⟨⟨⟨h1, h2⟩, h3⟩, ⟨h4, h5⟩, h6⟩, h7⟩, h8⟩, h9⟩; exact ⟨⟨h1.1, h1.2, h2⟩, h3, h4, h5, h6, h7, h8, h9⟩
 · rintro ⟨⟨h1, h1', h2⟩, h3, h4, h5, h6, h7, h8, h9⟩; exact ⟨⟨⟨⟨⟨⟨⟨h1, h1'⟩, h2⟩, h3⟩, ⟨h4, h5⟩, h6⟩, h7⟩, h8⟩, h9⟩
def ph (o : Orb) (t : Int) : Int := (t + o.f) % o.p
def up (o : Orb) (t : Int) : Int := min (ph o t) (o.p - ph o t)
def row (o : Orb) (t : Int) : Int := o.lo + (o.hi - o.lo) * 2 * up o t / o.p
def col (o : Orb) (t : Int) : Int := (o.nd + o.tn * t) % 48000
def atB (o : Orb) (t d : Int) : Bool := inB t 0 1000000 && inB d (-10) 10 && ok o
section
variable {o : Orb} (h : ok o = true) (t : Int)
include h
theorem ph_bd : 0 ≤ ph o t ∧ ph o t < o.p := by
 have := ok_t.1 h
 exact ⟨Int.emod_nonneg _ (by omega), Int.emod_lt_of_pos _ (by omega)⟩
theorem up_bd : 0 ≤ up o t ∧ 2 * up o t ≤ o.p := by
 have := ph_bd h t
 unfold up; omega
theorem mul_bd : 0 ≤ (o.hi - o.lo) * 2 * up o t ∧ (o.hi - o.lo) * 2 * up o t ≤ (o.hi - o.lo) * o.p := by
 have := ok_t.1 h
 obtain ⟨u0, u1⟩ := up_bd h t
 refine ⟨Int.mul_nonneg (by omega) u0, ?_⟩
 rw [Int.mul_assoc]
 exact Int.mul_le_mul_of_nonneg_left u1 (by omega)
theorem mul_le : (o.hi - o.lo) * o.p ≤ 47998000 := by
 have := ok_t.1 h
 calc (o.hi - o.lo) * o.p ≤ 23999 * o.p := Int.mul_le_mul_of_nonneg_right (by omega) (by omega)
  _ ≤ 47998000 := by omega
theorem row_bd : 0 ≤ row o t ∧ row o t ≤ 23999 := by
 have := ok_t.1 h
 obtain ⟨h0, h1⟩ := mul_bd h t
 unfold row
 have h2 : 0 ≤ (o.hi - o.lo) * 2 * up o t / o.p := Int.ediv_nonneg h0 (by omega)
 have h3 : (o.hi - o.lo) * 2 * up o t / o.p ≤ o.hi - o.lo := by
  have := Int.ediv_le_ediv (c := o.p) (by omega) h1
  rwa [Int.mul_ediv_cancel _ (by omega : o.p ≠ 0)] at this
 omega
omit h in
theorem col_bd : 0 ≤ col o t ∧ col o t ≤ 47999 := by
 unfold col; omega
theorem turn_bd (h0 : -10 ≤ t) (h1 : t ≤ 1000010) : -2000020000 ≤ o.tn * t ∧ o.tn * t ≤ 2000020000 := by
 have := ok_t.1 h
 have h2 : (o.tn * t).natAbs ≤ 2000 * 1000010 := by
  rw [Int.natAbs_mul]
  exact Nat.mul_le_mul (by omega) (by omega)
 omega
end
def cx (o : Orb) (t : Int) : Nat := (col o t / 1000).toNat
def cy (o : Orb) (t : Int) : Nat := (row o t / 1000).toNat
theorem cx_lt (o : Orb) (t : Int) : cx o t < 48 := by have := col_bd (o := o) t; unfold cx; omega
theorem cy_lt {o : Orb} (h : ok o = true) (t : Int) : cy o t < 24 := by have := row_bd h t; unfold cy; omega
theorem cx_z (o : Orb) (t : Int) : col o t / 1000 = (cx o t : Int) := by have := col_bd (o := o) t; unfold cx; omega
theorem cy_z {o : Orb} (h : ok o = true) (t : Int) : row o t / 1000 = (cy o t : Int) := by have := row_bd h t; unfold cy; omega
theorem around_eq {n c : Int} (h : 0 < c) : (n.tmod c + c).tmod c = n % c := by
 have h1 := Int.tmod_lt_of_pos n h
 have h2 : -c < n.tmod c := by
  have := Int.tmod_lt_of_pos (-n) h
  rw [Int.neg_tmod] at this; omega
 rw [Int.tmod_eq_emod_of_nonneg (by omega), Int.add_emod_right, Int.emod_eq_emod_iff_emod_sub_eq_zero.2]
 have h3 := Int.tmod_def n c
 have : n.tmod c - n = c * (-(n.tdiv c)) := by rw [Int.mul_neg]; omega
 rw [this]; exact Int.mul_emod_right _ _
theorem tmod_bd {n c : Int} (h : 0 < c) : -c < n.tmod c ∧ n.tmod c < c := by
 refine ⟨?_, Int.tmod_lt_of_pos n h⟩
 have := Int.tmod_lt_of_pos (-n) h
 rw [Int.neg_tmod] at this; omega
end Orb
end Go.Proofs.YtajdohcgjgknmaaGreatDoor

namespace Go.Proofs.YtajdohcgjgknmaaGreatDoor
open Go.RowKit
theorem own_app1h {α : Type} {R : Rep α} {P : Program} {t ty e : TypeId} {z : Value} {size bytes : Nat} (E : ElemT P t e z size bytes) {n₀ : Nat} {v : Value} {w : World} {l : List α} (h : OwnL R n₀ e size v w l) (hn : n₀ ≤ w.heap.size) {k : Nat} (hl : l.length = k)
    {O c : Nat} {x : α} {d : List Value} {F : List Nat} (hsz : d.length = size) (hcell : ∀ j u, d[j]? = some u → w.cell? ⟨O, j, none⟩ = some u) (h1 : ∀ u ∈ d, u.oneCell' = true)
    (hR : R.rel w d x F) (hF : ∀ b ∈ F, v.ownBlock ≠ some b) (hb : (k + 1) * bytes ≤ 140737488355328) (hmax : k + 1 ≤ 9223372036854775807) :
    ∃ g cap w', (Builtin.append_ #[t, t] ty #[v, .slice (some ⟨O, 0, none⟩) 1 c]).run P w = .ok (.slice (some ⟨g, 0, none⟩) (k + 1) cap) w' ∧ OwnL R n₀ e size (.slice (some ⟨g, 0, none⟩) (k + 1) cap) w' (l ++ [x]) ∧ Grew n₀ w w' ∧ w.grownBy w' v.ownBlock ∧ (v.ownBlock = some g ∨ w.heap.size ≤ g) := by
  subst hl
  obtain ⟨cs, h2, h3, h4, h5⟩ := h
  obtain ⟨i, hi, hz0, hz1, hz2⟩ := info_parts E.info
  obtain ⟨v', w', hrun, hown, hg, hiff, hat⟩ := run_append_own_at (P := P) w n₀ t ty e i z size bytes E.under hi hz0 hz1 hz2 E.zs E.pos v l.length cs.flatten h4 ⟨O, 0, none⟩ 1 c d (by rw [hsz, Nat.one_mul]) (fun j u hj => by
    rw [Addr.add_mid, Nat.zero_add]; exact hcell j u hj) h1 (by unfold maxLen; exact hmax) hb hn
  have hnb : ∀ F : List Nat, (∀ b ∈ F, v.ownBlock ≠ some b) → (∀ b ∈ F, b < w.heap.size) → (∀ b ∈ F, v'.ownBlock ≠ some b) ∧ ∀ b ∈ F, ∀ o u, w.cell? ⟨b, o, none⟩ = some u → w'.cell? ⟨b, o, none⟩ = some u := by
    intro F hF hFl
    refine ⟨fun b hbF hv' => ?_, fun b hbF o u hu => hg.cell hu (fun e => hF b hbF e.symm)⟩
    rcases hat with e1 | e1
    · exact hF b hbF (by rw [← e1]; exact hv')
    · rw [e1] at hv'; cases hv'; have := hFl _ hbF; omega
  have hO : OwnL R n₀ e size v' w' (l ++ [x]) := ⟨cs ++ [d], by simp [h2], by
      intro y hy
      rcases List.mem_append.1 hy with hy | hy
      · exact h3 y hy
      · rw [List.mem_singleton.1 hy]; exact hsz, by rw [List.flatten_append, List.length_append]; simpa using hown, by
      intro j y c hx hc
      rcases Nat.lt_or_ge j l.length with hj | hj
      · rw [List.getElem?_append_left hj] at hx
        rw [List.getElem?_append_left (by rw [h2]; exact hj)] at hc
        obtain ⟨F, q1, q2⟩ := h5 j y c hx hc
        obtain ⟨k1, k2⟩ := hnb F q2 (R.lt q1)
        exact ⟨F, R.keep q1 k2, k1⟩
      · rw [List.getElem?_append_right hj] at hx
        rw [List.getElem?_append_right (by rw [h2]; exact hj), h2] at hc
        match hj' : j - l.length, hx, hc with
        | 0, hx, hc =>
          simp at hx hc; subst hx hc
          obtain ⟨k1, k2⟩ := hnb F hF (R.lt hR)
          exact ⟨F, R.keep hR k2, k1⟩
        | _ + 1, hx, _ => simp at hx⟩
  rcases hown.2 with ⟨q, _⟩ | ⟨g, cap, cur, q, _, _, q3, _⟩
  · have := (hiff.1 q).2; omega
  · subst q
    exact ⟨g, cap, w', hrun, hO, ⟨hg.size, fun U hU hUn => Ext.own' hU h4 hUn hg⟩, hg, by
      rcases hat with e1 | e1
      · exact .inl e1.symm
      · exact .inr (Nat.le_of_eq (Option.some.inj e1).symm)⟩
theorem OwnL.grown {α : Type} {R : Rep α} {n₀ : Nat} {e : TypeId} {size : Nat} {v : Value} {w w' : World} {l : List α} {r : Option Nat} (h : OwnL R n₀ e size v w l) (hg : w.grownBy w' r) (ha : (v.ownBlock = none ∨ v.ownBlock ≠ r) ∧ ∀ w c x F, R.rel w c x F → F = []) : OwnL R n₀ e size v w' l := by
 obtain ⟨cs, q1, q2, q3, q4⟩ := h
 exact ⟨cs, q1, q2, q3.kept hg ha.1, fun j x c hx hc => by
  obtain ⟨F, k1, k2⟩ := q4 j x c hx hc
  have := ha.2 _ _ _ _ k1
  subst this
  exact ⟨[], R.keep k1 (fun b hb => by cases hb), fun b hb => by cases hb⟩⟩
def Apart (v u : Value) : Prop := ∀ b, v.ownBlock = some b → u.ownBlock ≠ some b
theorem Apart.symm {v u : Value} (h : Apart v u) : Apart u v := fun b hu hv => h b hv hu
theorem Apart.kept {v u : Value} (h : Apart v u) : v.ownBlock = none ∨ v.ownBlock ≠ u.ownBlock := by
 cases q : v.ownBlock with
 | none => exact .inl rfl
 | some b => exact .inr fun e => h b q e.symm
theorem Apart.grow {v u : Value} {w : World} {g n c : Nat} (h : Apart v u) (hor : v.ownBlock = some g ∨ w.heap.size ≤ g) (hu : ∀ b, u.ownBlock = some b → b < w.heap.size) : Apart (.slice (some ⟨g, 0, none⟩) n c) u := fun b hb hub => by
 have e : g = b := Option.some.inj hb
 subst e
 rcases hor with q | q
 · exact h g q hub
 · have := hu g hub; omega
theorem Apart.none {n c : Nat} (u : Value) : Apart (.slice none n c) u := fun b h => by cases h
structure RX where
 (b1 k1 b2 k2 b3 k3 : Nat) (im t : Int) (cl : Bool)
instance : Inhabited RX := ⟨⟨0, 0, 0, 0, 0, 0, 0, 0, false⟩⟩
def encS (x : RX) : List Value := [.slice (some ⟨x.b1, 0, none⟩) 24 x.k1, .slice (some ⟨x.b2, 0, none⟩) 24 x.k2]
def encP (x : RX) : List Value := [.int .i64 x.im, .int .i64 x.t, .bool x.cl, .slice (some ⟨x.b1, 0, none⟩) 24 x.k1]
def encA (x : RX) : List Value := [.slice (some ⟨x.b3, 0, none⟩) 24 x.k3]
def rxR (enc : RX → List Value) : Rep RX where
 rel _ c x F := c = enc x ∧ F = []
 keep := fun h _ => h
 lt := by rintro w c x F ⟨_, rfl⟩ b hb; cases hb
theorem rx_noF (enc : RX → List Value) : ∀ w c x F, (rxR enc).rel w c x F → F = [] := fun _ _ _ _ h => h.2
theorem stripT9 : ElemT Tryz.prog 29 40 (.agg #[.slice none 0 0, .slice none 0 0]) 2 48 := ⟨Tryz.underlying29, by kernel_rfl, rfl, by decide⟩
theorem areaT9 : ElemT Tryz.prog 31 33 (.agg #[.slice none 0 0]) 1 24 := ⟨Tryz.underlying31, by kernel_rfl, rfl, by decide⟩
theorem rx_cell9 {w : World} {base : Nat} {e : TypeId} {size g n cap : Nat} {xs : List Value} (h : w.ownsRow base e size (.slice (some ⟨g, 0, none⟩) n cap) n xs) {j : Nat} {u : Value} (hj : j < n * size) (hu : xs[j]? = some u) : w.cell? ⟨g, 0 + j, none⟩ = some u := by
 rw [Nat.zero_add, h.cellAt j hj]; exact hu
theorem rx_cells {enc : RX → List Value} {k : Nat} {n₀ e n cap : Nat} {a : Option Addr} {w : World} {l : List RX} (h : OwnL (rxR enc) n₀ e k (.slice a n cap) w l) (hl : l.length = n) (h0 : 0 < n) :
    ∃ g, a = some ⟨g, 0, none⟩ ∧ ∀ i x, l[i]? = some x → ∀ q u, q < k → (enc x)[q]? = some u → w.cell? ⟨g, 0 + i * k + q, none⟩ = some u := by
  subst hl
  obtain ⟨cs, h1, h2, h3, h4⟩ := h
  rcases h3.2 with ⟨q1, q2⟩ | ⟨g, cap', cur, q1, _⟩
  · injection q1 with r1 r2 r3; omega
  · injection q1 with r1 r2 r3
    subst r1
    refine ⟨g, rfl, fun i x hx q u hq hu => ?_⟩
    have hi := (List.getElem?_eq_some_iff.1 hx).1
    have hc := List.getElem?_eq_getElem (l := cs) (i := i) (by omega)
    obtain ⟨F, ⟨e1, _⟩, _⟩ := h4 i _ _ hx hc
    have f := flatten_get h2 i hc q hq
    rw [e1, hu] at f
    rw [Nat.add_assoc]
    exact rx_cell9 h3 (Nat.lt_of_lt_of_le (Nat.add_lt_add_left hq _) (by rw [← Nat.succ_mul]; exact Nat.mul_le_mul_right _ hi)) f
structure RdI (T : Nat → Prop) (w : World) (x : RX) (y : Top.Item) : Prop where
 su : VA w x.b1 0 y.su
 ca : VA w x.b2 0 y.ca
 re : VA w x.b3 0 y.re
 t1 : T x.b1
 t2 : T x.b2
 t3 : T x.b3
 im : x.im = y.im
 t : x.t = y.t
 cl : x.cl = y.cl
structure Rd (T : Nat → Prop) (w : World) (xs : List RX) (ys : List Top.Item) : Prop where
 len : xs.length = ys.length
 at_ : ∀ (k : Nat) x y, xs[k]? = some x → ys[k]? = some y → RdI T w x y
theorem RdI.ext {T : Nat → Prop} {w w' : World} {x : RX} {y : Top.Item} (h : RdI T w x y) (e : Ext w w') : RdI T w' x y := ⟨h.su.ext e, h.ca.ext e, h.re.ext e, h.t1, h.t2, h.t3, h.im, h.t, h.cl⟩
theorem Rd.ext {T : Nat → Prop} {w w' : World} {xs : List RX} {ys : List Top.Item} (h : Rd T w xs ys) (e : Ext w w') : Rd T w' xs ys := ⟨h.len, fun k x y hx hy => (h.at_ k x y hx hy).ext e⟩
theorem Rd.turn {T : Nat → Prop} {O : Nat} {w w' : World} {xs : List RX} {ys : List Top.Item} (h : Rd T w xs ys) (t : Turns O w w') (hO : ¬ T O) : Rd T w' xs ys := ⟨h.len, fun k x y hx hy => by
 obtain ⟨h1, h2, h3, h4, h5, h6, h7, h8, h9⟩ := h.at_ k x y hx hy
 exact ⟨t.va (fun e => hO (e ▸ h4)) h1, t.va (fun e => hO (e ▸ h5)) h2, t.va (fun e => hO (e ▸ h6)) h3, h4, h5, h6, h7, h8, h9⟩⟩
theorem Rd.grown {T : Nat → Prop} {r : Option Nat} {w w' : World} {xs : List RX} {ys : List Top.Item} (h : Rd T w xs ys) (hg : w.grownBy w' r) (hr : ∀ b, r = some b → ¬ T b) : Rd T w' xs ys := ⟨h.len, fun k x y hx hy => by
 obtain ⟨h1, h2, h3, h4, h5, h6, h7, h8, h9⟩ := h.at_ k x y hx hy
 exact ⟨h1.grownR hg (fun e => hr _ e h4), h2.grownR hg (fun e => hr _ e h5), h3.grownR hg (fun e => hr _ e h6), h4, h5, h6, h7, h8, h9⟩⟩
theorem Rd.nil (w : World) : Rd (fun _ => False) w [] [] := ⟨rfl, fun k x y hx => by simp at hx⟩
theorem Rd.mono {T T' : Nat → Prop} {w : World} {xs : List RX} {ys : List Top.Item} (h : Rd T w xs ys) (hT : ∀ k, T k → T' k) : Rd T' w xs ys := ⟨h.len, fun k x y hx hy => by
 obtain ⟨h1, h2, h3, h4, h5, h6, h7, h8, h9⟩ := h.at_ k x y hx hy
 exact ⟨h1, h2, h3, hT _ h4, hT _ h5, hT _ h6, h7, h8, h9⟩⟩
theorem Rd.snoc {T : Nat → Prop} {w : World} {xs : List RX} {ys : List Top.Item} {x : RX} {y : Top.Item} (h : Rd T w xs ys) (k : RdI T w x y) : Rd T w (xs ++ [x]) (ys ++ [y]) := ⟨by simp [h.len], fun j u v hu hv => by
  rcases Nat.lt_or_ge j xs.length with q | q
  · rw [List.getElem?_append_left q] at hu
    rw [List.getElem?_append_left (by rw [← h.len]; exact q)] at hv
    exact h.at_ j u v hu hv
  · rw [List.getElem?_append_right q] at hu
    rw [List.getElem?_append_right (by rw [← h.len]; exact q), ← h.len] at hv
    obtain ⟨h1, h2⟩ := List.getElem?_eq_some_iff.1 hu
    have e : j - xs.length = 0 := by simp at h1; omega
    rw [e] at hu hv
    simp at hu hv
    subst hu; subst hv; exact k⟩
section
variable {T : Nat → Prop} {w : World} {xs : List RX} {ys : List Top.Item} (hR : Rd T w xs ys)
include hR
theorem Rd.get {k : Nat} {y : Top.Item} (hy : ys[k]? = some y) : ∃ x, xs[k]? = some x ∧ RdI T w x y := by
 have hk := (List.getElem?_eq_some_iff.1 hy).1
 have hx := List.getElem?_eq_getElem (l := xs) (i := k) (by rw [hR.len]; exact hk)
 exact ⟨_, hx, hR.at_ k _ _ hx hy⟩
theorem own_strips9 {n₀ e n cap : Nat} {a : Option Addr} (h : OwnL (rxR encS) n₀ e 2 (.slice a n cap) w xs) (hl : xs.length = n) (hn : n ≤ 140737488355328) : StripsAt w a n (ys.map Top.Item.st) := by
  refine ⟨by rw [List.length_map, ← hR.len, hl], hn, ?_⟩
  rcases Nat.eq_zero_or_pos n with h0 | h0
  · exact .inl h0
  · obtain ⟨g, rfl, hc⟩ := rx_cells h hl h0
    refine .inr ⟨g, 0, rfl, fun i s hs => ?_⟩
    rw [List.getElem?_map] at hs
    obtain ⟨y, hy, rfl⟩ := Option.map_eq_some_iff.1 hs
    obtain ⟨x, hx, r⟩ := hR.get hy
    exact ⟨_, _, _, _, _, _, _, _, hc i x hx 0 _ (by omega) rfl, r.su.aa, hc i x hx 1 _ (by omega) rfl, r.ca.aa⟩
theorem own_pcs9 {n₀ e n cap : Nat} {a : Option Addr} (h : OwnL (rxR encP) n₀ e 4 (.slice a n cap) w xs) (hl : xs.length = n) (hn : n ≤ 140737488355328) : PcsAt w a n (ys.map Top.Item.pc) := by
  refine ⟨xs.map fun x => ⟨x.im, x.t, x.cl, some ⟨x.b1, 0, none⟩, 24, x.k1⟩, ⟨by rw [List.length_map, hl], hn, ?_⟩, ?_⟩
  · rcases Nat.eq_zero_or_pos n with h0 | h0
    · exact .inl h0
    · obtain ⟨g, rfl, hc⟩ := rx_cells h hl h0
      refine .inr ⟨g, 0, rfl, fun i s hs => ?_⟩
      rw [List.getElem?_map] at hs
      obtain ⟨x, hx, rfl⟩ := Option.map_eq_some_iff.1 hs
      exact ⟨hc i x hx 0 _ (by omega) rfl, hc i x hx 1 _ (by omega) rfl, hc i x hx 2 _ (by omega) rfl, hc i x hx 3 _ (by omega) rfl⟩
  · clear h hl hn
    induction xs generalizing ys with
    | nil => cases ys with
      | nil => trivial
      | cons y ys => have := hR.len; simp at this
    | cons x xs ih => cases ys with
      | nil => have := hR.len; simp at this
      | cons y ys =>
        have r := hR.at_ 0 x y rfl rfl
        exact ⟨⟨r.im, r.t, r.cl, by rw [show Globe.validL y.pc.rw = true from r.su.2]; exact r.su.aa⟩, ih ⟨by have := hR.len; simpa using this, fun k u v hu hv => hR.at_ (k + 1) u v (by simpa using hu) (by simpa using hv)⟩⟩
theorem own_areas9 {n₀ e n cap : Nat} {a : Option Addr} (h : OwnL (rxR encA) n₀ e 1 (.slice a n cap) w xs) (hl : xs.length = n) (h0 : 0 < n) :
  ∃ g, a = some ⟨g, 0, none⟩ ∧ ∀ k y, ys[k]? = some y → ∃ x : RX, w.cell? ⟨g, k, none⟩ = some (.slice (some ⟨x.b3, 0, none⟩) 24 x.k3) ∧ VA w x.b3 0 y.re := by
 obtain ⟨g, rfl, hc⟩ := rx_cells h hl h0
 refine ⟨g, rfl, fun k y hy => ?_⟩
 obtain ⟨x, hx, r⟩ := hR.get hy
 have := hc k x hx 0 _ (by omega) rfl
 rw [Nat.mul_one, Nat.zero_add, Nat.add_zero] at this
 exact ⟨x, this, r.re⟩
end
structure AllR (T : Nat → Prop) (w : World) (b : Nat) (L : List Int) : Prop where
 va : VA w b 0 L
 t : T b
theorem AllR.ext {T : Nat → Prop} {w w' : World} {b : Nat} {L : List Int} (h : AllR T w b L) (e : Ext w w') : AllR T w' b L := ⟨h.va.ext e, h.t⟩
theorem AllR.turn {T : Nat → Prop} {O : Nat} {w w' : World} {b : Nat} {L : List Int} (h : AllR T w b L) (t : Turns O w w') (hO : ¬ T O) : AllR T w' b L := ⟨t.va (fun e => hO (e ▸ h.t)) h.va, h.t⟩
theorem AllR.grown {T : Nat → Prop} {r : Option Nat} {w w' : World} {b : Nat} {L : List Int} (h : AllR T w b L) (hg : w.grownBy w' r) (hr : ∀ b, r = some b → ¬ T b) : AllR T w' b L := ⟨h.va.grownR hg (fun e => hr _ e h.t), h.t⟩
theorem AllR.mono {T T' : Nat → Prop} {w : World} {b : Nat} {L : List Int} (h : AllR T w b L) (hT : ∀ k, T k → T' k) : AllR T' w b L := ⟨h.va, hT _ h.t⟩
def OutT (v : Value) (T : Nat → Prop) : Prop := ∀ b, v.ownBlock = some b → ¬ T b
def NextT (T : Nat → Prop) (b1 b2 b3 : Nat) : Nat → Prop := fun k => T k ∨ k = b1 ∨ k = b2 ∨ k = b3
theorem OutT.more {v : Value} {T T' : Nat → Prop} {m : Nat} (h : OutT v T) (hl : ∀ b, v.ownBlock = some b → b < m) (hT : ∀ k, T' k → T k ∨ m ≤ k) : OutT v T' := fun b hb ht => by
 rcases hT b ht with q | q
 · exact h b hb q
 · have := hl b hb; omega
theorem OutT.next {v : Value} {T : Nat → Prop} {m g n c b1 b2 b3 : Nat} {W : World} (h : OutT v T) (hl : ∀ b, v.ownBlock = some b → b < m) (hT : ∀ k, T k → k < W.heap.size) (hor : v.ownBlock = some g ∨ W.heap.size ≤ g)
    (h1 : m ≤ b1 ∧ b1 < W.heap.size) (h2 : m ≤ b2 ∧ b2 < W.heap.size) (h3 : m ≤ b3 ∧ b3 < W.heap.size) : OutT (.slice (some ⟨g, 0, none⟩) n c) (NextT T b1 b2 b3) := fun b hb ht => by
  have e : g = b := Option.some.inj hb
  subst e
  rcases hor with q | q
  · have := hl g q
    rcases ht with k | k | k | k
    · exact h g q k
    all_goals omega
  · rcases ht with k | k | k | k
    · have := hT g k; omega
    all_goals omega
theorem RdI.mk' {T : Nat → Prop} {w : World} {x : RX} {y : Top.Item} (h1 : VA w x.b1 0 y.su) (h2 : VA w x.b2 0 y.ca) (h3 : VA w x.b3 0 y.re) (hi : x.im = y.im) (ht : x.t = y.t) (hc : x.cl = y.cl) : RdI (NextT T x.b1 x.b2 x.b3) w x y :=
 ⟨h1, h2, h3, .inr (.inl rfl), .inr (.inr (.inl rfl)), .inr (.inr (.inr rfl)), hi, ht, hc⟩
theorem isI_tdiv {a b : Int} (h : IsI a) (hb : 0 < b) : IsI (a.tdiv b) := by
  have h2 : (a.tdiv b).natAbs ≤ a.natAbs := by rw [Int.natAbs_tdiv]; exact Nat.div_le_self _ _
  unfold IsI at *
  rcases Int.lt_or_le a 0 with q | q
  · have h3 : 0 ≤ (-a).tdiv b := Int.tdiv_nonneg (by omega) (by omega)
    rw [Int.neg_tdiv] at h3; omega
  · have h3 : 0 ≤ a.tdiv b := Int.tdiv_nonneg q (by omega)
    omega
def AreasR (w : World) (a : Option Addr) (n : Nat) (ys : List Top.Item) : Prop := n = 0 ∨ ∃ g, a = some ⟨g, 0, none⟩ ∧ ∀ (k : Nat) y, ys[k]? = some y → ∃ x : RX, w.cell? ⟨g, k, none⟩ = some (.slice (some ⟨x.b3, 0, none⟩) 24 x.k3) ∧ VA w x.b3 0 y.re
theorem AreasR.ext {w w' : World} {a : Option Addr} {n : Nat} {ys : List Top.Item} (h : AreasR w a n ys) (e : Ext w w') : AreasR w' a n ys :=
 h.imp id fun ⟨g, ha, hx⟩ => ⟨g, ha, fun k y hy => by obtain ⟨x, q1, q2⟩ := hx k y hy; exact ⟨x, e.cell q1, q2.ext e⟩⟩
theorem areasR_of {T : Nat → Prop} {w : World} {xs : List RX} {ys : List Top.Item} (hR : Rd T w xs ys) {n₀ e n cap : Nat} {a : Option Addr} (h : OwnL (rxR encA) n₀ e 1 (.slice a n cap) w xs) (hl : xs.length = n) : AreasR w a n ys := by
 rcases Nat.eq_zero_or_pos n with h0 | h0
 · exact .inl h0
 · exact .inr (own_areas9 hR h hl h0)
theorem rx_cap {enc : RX → List Value} {k n₀ e n cap : Nat} {a : Option Addr} {w : World} {l : List RX} (h : OwnL (rxR enc) n₀ e k (.slice a n cap) w l) (hl : l.length = n) : n ≤ cap := by
 obtain ⟨cs, h1, h2, h3, h4⟩ := h
 rcases h3.2 with ⟨q, q2⟩ | ⟨g, cap', cur, q, _, _, hc, _⟩
 · injection q with r1 r2 r3; omega
 · injection q with r1 r2 r3; omega
def rawC (rs : List RawPc) (l : List Nat) : List RawPc := l.map fun j => rs[j]?.getD default
theorem rawC_step {rs : List RawPc} {l : List Nat} {i D : Nat} {x : RawPc} (hD : l[i]? = some D) (hx : rs[D]? = some x) : rawC rs (l.take (i + 1)) = rawC rs (l.take i) ++ [x] := by
 unfold rawC; rw [List.take_add_one, List.map_append, hD]; simp [hx]
theorem rawC_len (rs : List RawPc) {l : List Nat} {i : Nat} (hi : i ≤ l.length) : (rawC rs (l.take i)).length = i := by unfold rawC; rw [List.length_map, List.length_take]; omega
theorem reads_cho {w : World} {rs : List RawPc} {ys : List Top.Item} (h : Reads w rs (ys.map Top.Item.pc)) : ∀ {l : List Nat}, (∀ j ∈ l, j < ys.length) → Reads w (rawC rs l) (Top.cho ys l)
 | [], _ => trivial
 | j :: l, hl => by
  have hj := hl j (by simp)
  have hlen := h.len
  rw [List.length_map] at hlen
  obtain ⟨p, hp, hr⟩ := h.at (List.getElem?_eq_getElem (l := rs) (i := j) (by omega))
  rw [List.getElem?_map, List.getElem?_eq_getElem hj] at hp
  have hp' := Option.some.inj hp
  subst hp'
  refine ⟨?_, reads_cho h (fun k hk => hl k (List.mem_cons_of_mem _ hk))⟩
  show ReadsP w (rs[j]?.getD default) (ys[j]?.getD default).pc
  rw [List.getElem?_eq_getElem (l := rs) (i := j) (by omega), List.getElem?_eq_getElem hj]; exact hr
end Go.Proofs.YtajdohcgjgknmaaGreatDoor

namespace Go.Proofs.YtajdohcgjgknmaaGreatDoor
set_option maxRecDepth 1000000
set_option maxHeartbeats 4000000
set_option synthInstance.maxHeartbeats 0
set_option synthInstance.maxSize 9999
open Go.RowKit
theorem orbit_in_c (n lo hi : Int) (w : World) : Calls Tryz.prog 127 #[iv n, iv lo, iv hi] w fun e w' => e = .returned (.bool (Globe.inB n lo hi)) ∧ Ext w w' := by
 refine calls_cw 15 [(2, iv hi), (1, iv lo), (0, iv n)] Tryz.func127 rfl Tryz.ntmps127 (by kernel_rfl) (by kernel_rfl) (fun L => ?_);have hE := Ext.refl w;refine zc (zp (pT (.bool false) ?_));refine zn (zc (zp (pD (iv n) (iv lo) ?_)))
 by_cases hc1 : (n : Int) ≥ (lo : Int)
 ·
  refine pU (.bool true) (ed ((n : Int) ≥ (lo : Int)) (hc1)) ?_;refine pD (.bool true) (iv n) ?_;refine pT (iv hi) ?_
  by_cases hc2 : (n : Int) ≤ (hi : Int)
  ·
   refine pU (.bool true) (ed ((n : Int) ≤ (hi : Int)) (hc2)) ?_;refine pD (.bool true) (.bool true) ?_;refine zn (cw_ret (qw_ret [.bool true] rfl ⟨(by kernel_rfl), trivial⟩ ?_));exact ⟨rb (by first | exact (decide_eq_true (by omega)).symm | exact (decide_eq_false (by omega)).symm), hE⟩
  ·
   refine pU (.bool false) (en ((n : Int) ≤ (hi : Int)) (hc2)) ?_;refine pD (.bool false) (.bool false) ?_;refine zn (cw_ret (qw_ret [.bool false] rfl ⟨(by kernel_rfl), trivial⟩ ?_));exact ⟨rb (by first | exact (decide_eq_true (by omega)).symm | exact (decide_eq_false (by omega)).symm), hE⟩
 ·
  refine pU (.bool false) (en ((n : Int) ≥ (lo : Int)) (hc1)) ?_;refine pT (.bool false) ?_;refine pK ?_;refine pK ?_;refine pK ?_;refine pD (.bool false) (.bool false) ?_;refine zn (cw_ret (qw_ret [.bool false] rfl ⟨(by kernel_rfl), trivial⟩ ?_));exact ⟨rb (by first | exact (decide_eq_true (by omega)).symm | exact (decide_eq_false (by omega)).symm), hE⟩
theorem swath_isIn_c (n lo hi : Int) (w : World) : Calls Tryz.prog 46 #[iv n, iv lo, iv hi] w fun e w' => e = .returned (.bool (Globe.inB n lo hi)) ∧ Ext w w' := by
 refine calls_cw 15 [(2, iv hi), (1, iv lo), (0, iv n)] Tryz.func46 rfl Tryz.ntmps46 (by kernel_rfl) (by kernel_rfl) (fun L => ?_);have hE := Ext.refl w;refine zc (zp (pT (.bool false) ?_));refine zn (zc (zp (pD (iv lo) (iv n) ?_)))
 by_cases hc1 : (lo : Int) ≤ (n : Int)
 ·
  refine pU (.bool true) (ed ((lo : Int) ≤ (n : Int)) (hc1)) ?_;refine pD (.bool true) (iv n) ?_;refine pT (iv hi) ?_
  by_cases hc2 : (n : Int) ≤ (hi : Int)
  ·
   refine pU (.bool true) (ed ((n : Int) ≤ (hi : Int)) (hc2)) ?_;refine pD (.bool true) (.bool true) ?_;refine zn (cw_ret (qw_ret [.bool true] rfl ⟨(by kernel_rfl), trivial⟩ ?_));exact ⟨rb (by first | exact (decide_eq_true (by omega)).symm | exact (decide_eq_false (by omega)).symm), hE⟩
  ·
   refine pU (.bool false) (en ((n : Int) ≤ (hi : Int)) (hc2)) ?_;refine pD (.bool false) (.bool false) ?_;refine zn (cw_ret (qw_ret [.bool false] rfl ⟨(by kernel_rfl), trivial⟩ ?_));exact ⟨rb (by first | exact (decide_eq_true (by omega)).symm | exact (decide_eq_false (by omega)).symm), hE⟩
 ·
  refine pU (.bool false) (en ((lo : Int) ≤ (n : Int)) (hc1)) ?_;refine pT (.bool false) ?_;refine pK ?_;refine pK ?_;refine pK ?_;refine pD (.bool false) (.bool false) ?_;refine zn (cw_ret (qw_ret [.bool false] rfl ⟨(by kernel_rfl), trivial⟩ ?_));exact ⟨rb (by first | exact (decide_eq_true (by omega)).symm | exact (decide_eq_false (by omega)).symm), hE⟩
theorem orbit_in_r (n lo hi : Int) {r : Bool} (w : World) (hr : Globe.inB n lo hi = r) : Calls Tryz.prog 127 #[.int .i64 n, .int .i64 lo, .int .i64 hi] w fun e w' => e = .returned (.bool r) ∧ Ext w w' := hr ▸ orbit_in_c n lo hi w
theorem swath_isIn_r (n lo hi : Int) {r : Bool} (w : World) (hr : Globe.inB n lo hi = r) : Calls Tryz.prog 46 #[.int .i64 n, .int .i64 lo, .int .i64 hi] w fun e w' => e = .returned (.bool r) ∧ Ext w w' := hr ▸ swath_isIn_c n lo hi w
end Go.Proofs.YtajdohcgjgknmaaGreatDoor

namespace Go.Proofs.YtajdohcgjgknmaaGreatDoor
set_option maxRecDepth 1000000
set_option maxHeartbeats 4000000
set_option synthInstance.maxHeartbeats 0
set_option synthInstance.maxSize 9999
open Go.RowKit
theorem around_c (n c : Int) (w : World) (h0 : 0 < c) (hc : c ≤ 48000) : Calls Tryz.prog 159 #[iv n, iv c] w fun e w' => e = .returned (iv (n % c)) ∧ Ext w w' := by
 have ht := Orb.tmod_bd (n := n) h0;refine calls_cw 12 [(1, iv c), (0, iv n)] Tryz.func159 rfl Tryz.ntmps159 (by kernel_rfl) (by kernel_rfl) (fun L => ?_);have hE := Ext.refl w;refine zc (zp (pT (iv 0) ?_));refine zn (zc (zp (pD (iv n) (iv c) ?_)));refine pU (iv ((n : Int).tmod c : Int)) (ex_bin (a := n) (b := c) rfl (by kernel_rfl) (by kernel_rfl) (bin_tmod (by omega))) ?_;refine pT (iv c) ?_;refine pU (iv (((n : Int).tmod c) + c : Int)) (ew (by omega) (by omega)) ?_;refine pT (iv c) ?_;refine pU (iv (n % c : Int)) (ev_int (ex_bin (a := n.tmod c + c) (b := c) rfl (by kernel_rfl) (by kernel_rfl) (bin_tmod (by omega))) (Orb.around_eq h0)) ?_;refine pT (iv (n % c : Int)) ?_;refine zn (cw_ret (qw_ret [iv (n % c : Int)] rfl ⟨(by kernel_rfl), trivial⟩ ?_));exact ⟨rfl, hE⟩
theorem oValid_c (o : Orb) (w : World) : Calls Tryz.prog 93 #[.agg #[iv o.p, iv o.f, iv o.lo, iv o.hi, iv o.nd, iv o.tn, iv o.sl]] w fun e w' => e = .returned (.bool (Orb.ok o)) ∧ Ext w w' := by
 refine calls_cw 56 [(0, .agg #[iv o.p, iv o.f, iv o.lo, iv o.hi, iv o.nd, iv o.tn, iv o.sl])] Tryz.func93 rfl Tryz.ntmps93 (by kernel_rfl) (by kernel_rfl) (fun L => ?_);have hE := Ext.refl w;refine zc (zp (pS (sw 26 #[iv o.p, iv o.f, iv o.lo, iv o.hi, iv o.nd, iv o.tn, iv o.sl] ?_)));intro O1 X2 D8 D7 hb hbx;have ⟨Bv, C1, Bc, Be, C2, C3, C4⟩ := bq7 hbx;replace hE := hE.trans hb;have Da := hb.size;have Dc := Bv.lt;refine pT (.bool false) ?_;refine pl_nil (qw_then ?_);refine cw_seq ?_;have B7 := Ext.refl X2;refine zp (pT (pw O1 0) ?_);refine pU (iv o.p) (xl (ld3 (Bv.1))) ?_;rcases Bool.eq_false_or_eq_true (Globe.inB o.p 20 2000) with Bg | Bg
 ·
  have D9 := Globe.inB_t.1 Bg;refine pS (sc 127 #[iv o.p, iv 20, iv 2000] ((orbit_in_r (r := true) o.p 20 2000 _ (Bg)).mono ?_));rintro e w8 ⟨rfl, hb⟩;refine mv2 hb hE B7 fun hE B7=>?_;have Db := hb.size;refine ⟨_, rfl, pD (.bool true) (pw O1 0) ?_⟩;refine pU (iv o.p) (xl (ld3 (Bv.c B7))) ?_;refine pU (iv ((o.p : Int).tmod 2 : Int)) (ex_bin (a := o.p) (b := 2) rfl (by kernel_rfl) (by kernel_rfl) (bin_tmod (by omega))) ?_
  by_cases Ba : ((o.p : Int).tmod 2 : Int) = (0 : Int)
  ·
   refine pU (.bool true) (eE ((o.p : Int).tmod 2 : Int) (0 : Int) (Ba)) ?_;refine pD (.bool true) (.bool true) ?_;refine pT (pw O1 1) ?_;refine pU (iv o.f) (xl (ld3 (C1.c B7))) ?_;refine pT (pw O1 0) ?_;refine pU (iv o.p) (xl (ld3 (Bv.c B7))) ?_;refine pU (iv (o.p - 1 : Int)) (ew (by omega) (by omega)) ?_;rcases Bool.eq_false_or_eq_true (Globe.inB o.f 0 (o.p - 1)) with Bb | Bb
   ·
    have C5 := Globe.inB_t.1 Bb;refine pS (sc 127 #[iv o.f, iv 0, iv (o.p - 1 : Int)] ((orbit_in_r (r := true) o.f 0 (o.p - 1) _ (Bb)).mono ?_));rintro e Dd ⟨rfl, hb⟩;refine mv2 hb hE B7 fun hE B7=>?_;have Ci := hb.size;refine ⟨_, rfl, pD (.bool true) (.bool true) ?_⟩;refine zn (cK [1,3] (fun L => ?_));refine zc (zp (pT (pw O1 2) ?_));refine pU (iv o.lo) (xl (ld3 (Bc.c B7))) ?_;rcases Bool.eq_false_or_eq_true (Globe.inB o.lo 0 23999) with Bf | Bf
    ·
     have C6 := Globe.inB_t.1 Bf;refine pS (sc 127 #[iv o.lo, iv 0, iv 23999] ((orbit_in_r (r := true) o.lo 0 23999 _ (Bf)).mono ?_));rintro e De ⟨rfl, hb⟩;refine mv2 hb hE B7 fun hE B7=>?_;have Cj := hb.size;refine ⟨_, rfl, pD (.bool true) (pw O1 3) ?_⟩;refine pU (iv o.hi) (xl (ld3 (Be.c B7))) ?_;rcases Bool.eq_false_or_eq_true (Globe.inB o.hi 0 23999) with Bh | Bh
     ·
      have C8 := Globe.inB_t.1 Bh;refine pS (sc 127 #[iv o.hi, iv 0, iv 23999] ((orbit_in_r (r := true) o.hi 0 23999 _ (Bh)).mono ?_));rintro e Df ⟨rfl, hb⟩;refine mv2 hb hE B7 fun hE B7=>?_;have Ck := hb.size;refine ⟨_, rfl, pD (.bool true) (.bool true) ?_⟩;refine pT (pw O1 2) ?_;refine pU (iv o.lo) (xl (ld3 (Bc.c B7))) ?_;refine pT (pw O1 3) ?_;refine pU (iv o.hi) (xl (ld3 (Be.c B7))) ?_
      by_cases Bu : (o.lo : Int) < (o.hi : Int)
      ·
       refine pU (.bool true) (ed ((o.lo : Int) < (o.hi : Int)) (Bu)) ?_;refine pD (.bool true) (.bool true) ?_;refine zn (cK [1,3,4] (fun L => ?_));refine zc (zp (pD (.bool true) (.bool true) ?_));refine pD (.bool true) (.bool true) ?_;refine pD (.bool true) (pw O1 4) ?_;refine pU (iv o.nd) (xl (ld3 (C2.c B7))) ?_;rcases Bool.eq_false_or_eq_true (Globe.inB o.nd 0 47999) with Bi | Bi
       ·
        have C9 := Globe.inB_t.1 Bi;refine pS (sc 127 #[iv o.nd, iv 0, iv 47999] ((orbit_in_r (r := true) o.nd 0 47999 _ (Bi)).mono ?_));rintro e Dg ⟨rfl, hb⟩;refine mv2 hb hE B7 fun hE B7=>?_;have Cl := hb.size;refine ⟨_, rfl, pD (.bool true) (.bool true) ?_⟩;refine pT (pw O1 5) ?_;refine pU (iv o.tn) (xl (ld3 (C3.c B7))) ?_;rcases Bool.eq_false_or_eq_true (Globe.inB o.tn (-2000) 2000) with Bp | Bp
        ·
         have Ca := Globe.inB_t.1 Bp;refine pS (sc 127 #[iv o.tn, iv (-2000 : Int), iv 2000] ((orbit_in_r (r := true) o.tn (-2000) 2000 _ (Bp)).mono ?_));rintro e Dh ⟨rfl, hb⟩;refine mv2 hb hE B7 fun hE B7=>?_;have Cm := hb.size;refine ⟨_, rfl, pD (.bool true) (.bool true) ?_⟩;refine pT (pw O1 6) ?_;refine pU (iv o.sl) (xl (ld3 (C4.c B7))) ?_;rcases Bool.eq_false_or_eq_true (Globe.inB o.sl 0 10) with Bw | Bw
         ·
          have Cb := Globe.inB_t.1 Bw;refine pS (sc 127 #[iv o.sl, iv 0, iv 10] ((orbit_in_r (r := true) o.sl 0 10 _ (Bw)).mono ?_));rintro e Di ⟨rfl, hb⟩;refine mv2 hb hE B7 fun hE B7=>?_;have Cn := hb.size;refine ⟨_, rfl, pD (.bool true) (.bool true) ?_⟩;refine zn (cK [2] (fun L => ?_));refine cw_ret (qw_ret [.bool true] rfl ⟨(by kernel_rfl), trivial⟩ ?_);exact ⟨rb (show Orb.ok o = true by simp [Orb.ok, Bg, Bb, Bf, Bh, Bi, Bp, Bw, Ba, Bu]).symm, hE⟩
         ·
          refine pS (sc 127 #[iv o.sl, iv 0, iv 10] ((orbit_in_r (r := false) o.sl 0 10 _ (Bw)).mono ?_));rintro e Dj ⟨rfl, hb⟩;refine mv2 hb hE B7 fun hE B7=>?_;have Co := hb.size;refine ⟨_, rfl, pD (.bool false) (.bool false) ?_⟩;refine zn (cK [2] (fun L => ?_));refine cw_ret (qw_ret [.bool false] rfl ⟨(by kernel_rfl), trivial⟩ ?_);exact ⟨rb (show Orb.ok o = false by simp [Orb.ok, Bg, Bb, Bf, Bh, Bi, Bp, Bw, Ba, Bu]).symm, hE⟩
        ·
         refine pS (sc 127 #[iv o.tn, iv (-2000 : Int), iv 2000] ((orbit_in_r (r := false) o.tn (-2000) 2000 _ (Bp)).mono ?_));rintro e Dk ⟨rfl, hb⟩;refine mv2 hb hE B7 fun hE B7=>?_;have Cp := hb.size;refine ⟨_, rfl, pD (.bool false) (.bool false) ?_⟩;refine pK ?_;refine pK ?_;refine pK ?_;refine pD (.bool false) (.bool false) ?_;refine zn (cK [2] (fun L => ?_));refine cw_ret (qw_ret [.bool false] rfl ⟨(by kernel_rfl), trivial⟩ ?_);exact ⟨rb (show Orb.ok o = false by simp [Orb.ok, Bg, Bb, Bf, Bh, Bi, Bp, Ba, Bu]).symm, hE⟩
       ·
        refine pS (sc 127 #[iv o.nd, iv 0, iv 47999] ((orbit_in_r (r := false) o.nd 0 47999 _ (Bi)).mono ?_));rintro e Dl ⟨rfl, hb⟩;refine mv2 hb hE B7 fun hE B7=>?_;have Cq := hb.size;refine ⟨_, rfl, pD (.bool false) (.bool false) ?_⟩;refine pK ?_;refine pK ?_;refine pK ?_;refine pD (.bool false) (.bool false) ?_;refine pK ?_;refine pK ?_;refine pK ?_;refine pD (.bool false) (.bool false) ?_;refine zn (cK [2] (fun L => ?_));refine cw_ret (qw_ret [.bool false] rfl ⟨(by kernel_rfl), trivial⟩ ?_);exact ⟨rb (show Orb.ok o = false by simp [Orb.ok, Bg, Bb, Bf, Bh, Bi, Ba, Bu]).symm, hE⟩
      ·
       refine pU (.bool false) (en ((o.lo : Int) < (o.hi : Int)) (Bu)) ?_;refine pD (.bool false) (.bool false) ?_;refine zn (cK [1,3,4] (fun L => ?_));refine zc (zp (pD (.bool true) (.bool true) ?_));refine pD (.bool false) (.bool false) ?_;refine pT (.bool false) ?_;refine pK ?_;refine pK ?_;refine pK ?_;refine pD (.bool false) (.bool false) ?_;refine pK ?_;refine pK ?_;refine pK ?_;refine pD (.bool false) (.bool false) ?_;refine pK ?_;refine pK ?_;refine pK ?_;refine pD (.bool false) (.bool false) ?_;refine zn (cK [2] (fun L => ?_));refine cw_ret (qw_ret [.bool false] rfl ⟨(by kernel_rfl), trivial⟩ ?_);exact ⟨rb (show Orb.ok o = false by simp [Orb.ok, Bg, Bb, Bf, Bh, Ba, Bu]).symm, hE⟩
     ·
      refine pS (sc 127 #[iv o.hi, iv 0, iv 23999] ((orbit_in_r (r := false) o.hi 0 23999 _ (Bh)).mono ?_));rintro e Dm ⟨rfl, hb⟩;refine mv2 hb hE B7 fun hE B7=>?_;have Cr := hb.size;refine ⟨_, rfl, pD (.bool false) (.bool false) ?_⟩;refine pK ?_;refine pK ?_;refine pK ?_;refine pK ?_;refine pK ?_;refine pD (.bool false) (.bool false) ?_;refine zn (cK [1,3,4] (fun L => ?_));refine zc (zp (pD (.bool true) (.bool true) ?_));refine pD (.bool false) (.bool false) ?_;refine pT (.bool false) ?_;refine pK ?_;refine pK ?_;refine pK ?_;refine pD (.bool false) (.bool false) ?_;refine pK ?_;refine pK ?_;refine pK ?_;refine pD (.bool false) (.bool false) ?_;refine pK ?_;refine pK ?_;refine pK ?_;refine pD (.bool false) (.bool false) ?_;refine zn (cK [2] (fun L => ?_));refine cw_ret (qw_ret [.bool false] rfl ⟨(by kernel_rfl), trivial⟩ ?_);exact ⟨rb (show Orb.ok o = false by simp [Orb.ok, Bg, Bb, Bf, Bh, Ba]).symm, hE⟩
    ·
     refine pS (sc 127 #[iv o.lo, iv 0, iv 23999] ((orbit_in_r (r := false) o.lo 0 23999 _ (Bf)).mono ?_));rintro e Dn ⟨rfl, hb⟩;refine mv2 hb hE B7 fun hE B7=>?_;have Cs := hb.size;refine ⟨_, rfl, pT (.bool false) ?_⟩;refine pK ?_;refine pK ?_;refine pK ?_;refine pD (.bool false) (.bool false) ?_;refine pK ?_;refine pK ?_;refine pK ?_;refine pK ?_;refine pK ?_;refine pD (.bool false) (.bool false) ?_;refine zn (cK [1,3,4] (fun L => ?_));refine zc (zp (pD (.bool true) (.bool true) ?_));refine pD (.bool false) (.bool false) ?_;refine pT (.bool false) ?_;refine pK ?_;refine pK ?_;refine pK ?_;refine pD (.bool false) (.bool false) ?_;refine pK ?_;refine pK ?_;refine pK ?_;refine pD (.bool false) (.bool false) ?_;refine pK ?_;refine pK ?_;refine pK ?_;refine pD (.bool false) (.bool false) ?_;refine zn (cK [2] (fun L => ?_));refine cw_ret (qw_ret [.bool false] rfl ⟨(by kernel_rfl), trivial⟩ ?_);exact ⟨rb (show Orb.ok o = false by simp [Orb.ok, Bg, Bb, Bf, Ba]).symm, hE⟩
   ·
    refine pS (sc 127 #[iv o.f, iv 0, iv (o.p - 1 : Int)] ((orbit_in_r (r := false) o.f 0 (o.p - 1) _ (Bb)).mono ?_));rintro e Do ⟨rfl, hb⟩;refine mv2 hb hE B7 fun hE B7=>?_;have Ct := hb.size;refine ⟨_, rfl, pD (.bool false) (.bool false) ?_⟩;refine zn (cK [1,3] (fun L => ?_));refine zc (zp (pT (pw O1 2) ?_));refine pU (iv o.lo) (xl (ld3 (Bc.c B7))) ?_;rcases Bool.eq_false_or_eq_true (Globe.inB o.lo 0 23999) with Bj | Bj
    ·
     have Cc := Globe.inB_t.1 Bj;refine pS (sc 127 #[iv o.lo, iv 0, iv 23999] ((orbit_in_r (r := true) o.lo 0 23999 _ (Bj)).mono ?_));rintro e Dp ⟨rfl, hb⟩;refine mv2 hb hE B7 fun hE B7=>?_;have Cu := hb.size;refine ⟨_, rfl, pD (.bool true) (pw O1 3) ?_⟩;refine pU (iv o.hi) (xl (ld3 (Be.c B7))) ?_;rcases Bool.eq_false_or_eq_true (Globe.inB o.hi 0 23999) with Bq | Bq
     ·
      have Cd := Globe.inB_t.1 Bq;refine pS (sc 127 #[iv o.hi, iv 0, iv 23999] ((orbit_in_r (r := true) o.hi 0 23999 _ (Bq)).mono ?_));rintro e Dq ⟨rfl, hb⟩;refine mv2 hb hE B7 fun hE B7=>?_;have Cv := hb.size;refine ⟨_, rfl, pD (.bool true) (.bool true) ?_⟩;refine pT (pw O1 2) ?_;refine pU (iv o.lo) (xl (ld3 (Bc.c B7))) ?_;refine pT (pw O1 3) ?_;refine pU (iv o.hi) (xl (ld3 (Be.c B7))) ?_
      by_cases Bx : (o.lo : Int) < (o.hi : Int)
      ·
       refine pU (.bool true) (ed ((o.lo : Int) < (o.hi : Int)) (Bx)) ?_;refine pD (.bool true) (.bool true) ?_;refine zn (cK [1,3,4] (fun L => ?_));refine zc (zp (pD (.bool false) (.bool false) ?_));refine pK ?_;refine pD (.bool false) (.bool false) ?_;refine pK ?_;refine pK ?_;refine pK ?_;refine pD (.bool false) (.bool false) ?_;refine pK ?_;refine pK ?_;refine pK ?_;refine pD (.bool false) (.bool false) ?_;refine pK ?_;refine pK ?_;refine pK ?_;refine pD (.bool false) (.bool false) ?_;refine zn (cK [2] (fun L => ?_));refine cw_ret (qw_ret [.bool false] rfl ⟨(by kernel_rfl), trivial⟩ ?_);exact ⟨rb (show Orb.ok o = false by simp [Orb.ok, Bg, Bb, Bj, Bq, Ba, Bx]).symm, hE⟩
      ·
       refine pU (.bool false) (en ((o.lo : Int) < (o.hi : Int)) (Bx)) ?_;refine pD (.bool false) (.bool false) ?_;refine zn (cK [1,3,4] (fun L => ?_));refine zc (zp (pD (.bool false) (.bool false) ?_));refine pK ?_;refine pD (.bool false) (.bool false) ?_;refine pK ?_;refine pK ?_;refine pK ?_;refine pD (.bool false) (.bool false) ?_;refine pK ?_;refine pK ?_;refine pK ?_;refine pD (.bool false) (.bool false) ?_;refine pK ?_;refine pK ?_;refine pK ?_;refine pD (.bool false) (.bool false) ?_;refine zn (cK [2] (fun L => ?_));refine cw_ret (qw_ret [.bool false] rfl ⟨(by kernel_rfl), trivial⟩ ?_);exact ⟨rb (show Orb.ok o = false by simp [Orb.ok, Bg, Bb, Bj, Bq, Ba, Bx]).symm, hE⟩
     ·
      refine pS (sc 127 #[iv o.hi, iv 0, iv 23999] ((orbit_in_r (r := false) o.hi 0 23999 _ (Bq)).mono ?_));rintro e Dr ⟨rfl, hb⟩;refine mv2 hb hE B7 fun hE B7=>?_;have Cw := hb.size;refine ⟨_, rfl, pD (.bool false) (.bool false) ?_⟩;refine pK ?_;refine pK ?_;refine pK ?_;refine pK ?_;refine pK ?_;refine pD (.bool false) (.bool false) ?_;refine zn (cK [1,3,4] (fun L => ?_));refine zc (zp (pD (.bool false) (.bool false) ?_));refine pK ?_;refine pD (.bool false) (.bool false) ?_;refine pK ?_;refine pK ?_;refine pK ?_;refine pD (.bool false) (.bool false) ?_;refine pK ?_;refine pK ?_;refine pK ?_;refine pD (.bool false) (.bool false) ?_;refine pK ?_;refine pK ?_;refine pK ?_;refine pD (.bool false) (.bool false) ?_;refine zn (cK [2] (fun L => ?_));refine cw_ret (qw_ret [.bool false] rfl ⟨(by kernel_rfl), trivial⟩ ?_);exact ⟨rb (show Orb.ok o = false by simp [Orb.ok, Bg, Bb, Bj, Bq, Ba]).symm, hE⟩
    ·
     refine pS (sc 127 #[iv o.lo, iv 0, iv 23999] ((orbit_in_r (r := false) o.lo 0 23999 _ (Bj)).mono ?_));rintro e Dt ⟨rfl, hb⟩;refine mv2 hb hE B7 fun hE B7=>?_;have Cx := hb.size;refine ⟨_, rfl, pT (.bool false) ?_⟩;refine pK ?_;refine pK ?_;refine pK ?_;refine pD (.bool false) (.bool false) ?_;refine pK ?_;refine pK ?_;refine pK ?_;refine pK ?_;refine pK ?_;refine pD (.bool false) (.bool false) ?_;refine zn (cK [1,3,4] (fun L => ?_));refine zc (zp (pD (.bool false) (.bool false) ?_));refine pK ?_;refine pD (.bool false) (.bool false) ?_;refine pK ?_;refine pK ?_;refine pK ?_;refine pD (.bool false) (.bool false) ?_;refine pK ?_;refine pK ?_;refine pK ?_;refine pD (.bool false) (.bool false) ?_;refine pK ?_;refine pK ?_;refine pK ?_;refine pD (.bool false) (.bool false) ?_;refine zn (cK [2] (fun L => ?_));refine cw_ret (qw_ret [.bool false] rfl ⟨(by kernel_rfl), trivial⟩ ?_);exact ⟨rb (show Orb.ok o = false by simp [Orb.ok, Bg, Bb, Bj, Ba]).symm, hE⟩
  ·
   refine pU (.bool false) (eN ((o.p : Int).tmod 2 : Int) (0 : Int) (Ba)) ?_;refine pD (.bool false) (.bool false) ?_;refine pK ?_;refine pK ?_;refine pK ?_;refine pK ?_;refine pK ?_;refine pK ?_;refine pD (.bool false) (.bool false) ?_;refine zn (cK [1,3] (fun L => ?_));refine zc (zp (pT (pw O1 2) ?_));refine pU (iv o.lo) (xl (ld3 (Bc.c B7))) ?_;rcases Bool.eq_false_or_eq_true (Globe.inB o.lo 0 23999) with Bk | Bk
   ·
    have Ce := Globe.inB_t.1 Bk;refine pS (sc 127 #[iv o.lo, iv 0, iv 23999] ((orbit_in_r (r := true) o.lo 0 23999 _ (Bk)).mono ?_));rintro e Du ⟨rfl, hb⟩;refine mv2 hb hE B7 fun hE B7=>?_;have Cy := hb.size;refine ⟨_, rfl, pD (.bool true) (pw O1 3) ?_⟩;refine pU (iv o.hi) (xl (ld3 (Be.c B7))) ?_;rcases Bool.eq_false_or_eq_true (Globe.inB o.hi 0 23999) with Br | Br
    ·
     have Cf := Globe.inB_t.1 Br;refine pS (sc 127 #[iv o.hi, iv 0, iv 23999] ((orbit_in_r (r := true) o.hi 0 23999 _ (Br)).mono ?_));rintro e Dv ⟨rfl, hb⟩;refine mv2 hb hE B7 fun hE B7=>?_;have Cz := hb.size;refine ⟨_, rfl, pD (.bool true) (.bool true) ?_⟩;refine pT (pw O1 2) ?_;refine pU (iv o.lo) (xl (ld3 (Bc.c B7))) ?_;refine pT (pw O1 3) ?_;refine pU (iv o.hi) (xl (ld3 (Be.c B7))) ?_
     by_cases Bz : (o.lo : Int) < (o.hi : Int)
     ·
      refine pU (.bool true) (ed ((o.lo : Int) < (o.hi : Int)) (Bz)) ?_;refine pD (.bool true) (.bool true) ?_;refine zn (cK [1,3,4] (fun L => ?_));refine zc (zp (pD (.bool false) (.bool false) ?_));refine pK ?_;refine pD (.bool false) (.bool false) ?_;refine pK ?_;refine pK ?_;refine pK ?_;refine pD (.bool false) (.bool false) ?_;refine pK ?_;refine pK ?_;refine pK ?_;refine pD (.bool false) (.bool false) ?_;refine pK ?_;refine pK ?_;refine pK ?_;refine pD (.bool false) (.bool false) ?_;refine zn (cK [2] (fun L => ?_));refine cw_ret (qw_ret [.bool false] rfl ⟨(by kernel_rfl), trivial⟩ ?_);exact ⟨rb (show Orb.ok o = false by simp [Orb.ok, Bg, Bk, Br, Ba, Bz]).symm, hE⟩
     ·
      refine pU (.bool false) (en ((o.lo : Int) < (o.hi : Int)) (Bz)) ?_;refine pD (.bool false) (.bool false) ?_;refine zn (cK [1,3,4] (fun L => ?_));refine zc (zp (pD (.bool false) (.bool false) ?_));refine pK ?_;refine pD (.bool false) (.bool false) ?_;refine pK ?_;refine pK ?_;refine pK ?_;refine pD (.bool false) (.bool false) ?_;refine pK ?_;refine pK ?_;refine pK ?_;refine pD (.bool false) (.bool false) ?_;refine pK ?_;refine pK ?_;refine pK ?_;refine pD (.bool false) (.bool false) ?_;refine zn (cK [2] (fun L => ?_));refine cw_ret (qw_ret [.bool false] rfl ⟨(by kernel_rfl), trivial⟩ ?_);exact ⟨rb (show Orb.ok o = false by simp [Orb.ok, Bg, Bk, Br, Bz]).symm, hE⟩
    ·
     refine pS (sc 127 #[iv o.hi, iv 0, iv 23999] ((orbit_in_r (r := false) o.hi 0 23999 _ (Br)).mono ?_));rintro e Dw ⟨rfl, hb⟩;refine mv2 hb hE B7 fun hE B7=>?_;have D0 := hb.size;refine ⟨_, rfl, pD (.bool false) (.bool false) ?_⟩;refine pK ?_;refine pK ?_;refine pK ?_;refine pK ?_;refine pK ?_;refine pD (.bool false) (.bool false) ?_;refine zn (cK [1,3,4] (fun L => ?_));refine zc (zp (pD (.bool false) (.bool false) ?_));refine pK ?_;refine pD (.bool false) (.bool false) ?_;refine pK ?_;refine pK ?_;refine pK ?_;refine pD (.bool false) (.bool false) ?_;refine pK ?_;refine pK ?_;refine pK ?_;refine pD (.bool false) (.bool false) ?_;refine pK ?_;refine pK ?_;refine pK ?_;refine pD (.bool false) (.bool false) ?_;refine zn (cK [2] (fun L => ?_));refine cw_ret (qw_ret [.bool false] rfl ⟨(by kernel_rfl), trivial⟩ ?_);exact ⟨rb (show Orb.ok o = false by simp [Orb.ok, Bg, Bk, Br]).symm, hE⟩
   ·
    refine pS (sc 127 #[iv o.lo, iv 0, iv 23999] ((orbit_in_r (r := false) o.lo 0 23999 _ (Bk)).mono ?_));rintro e Dx ⟨rfl, hb⟩;refine mv2 hb hE B7 fun hE B7=>?_;have D1 := hb.size;refine ⟨_, rfl, pT (.bool false) ?_⟩;refine pK ?_;refine pK ?_;refine pK ?_;refine pD (.bool false) (.bool false) ?_;refine pK ?_;refine pK ?_;refine pK ?_;refine pK ?_;refine pK ?_;refine pD (.bool false) (.bool false) ?_;refine zn (cK [1,3,4] (fun L => ?_));refine zc (zp (pD (.bool false) (.bool false) ?_));refine pK ?_;refine pD (.bool false) (.bool false) ?_;refine pK ?_;refine pK ?_;refine pK ?_;refine pD (.bool false) (.bool false) ?_;refine pK ?_;refine pK ?_;refine pK ?_;refine pD (.bool false) (.bool false) ?_;refine pK ?_;refine pK ?_;refine pK ?_;refine pD (.bool false) (.bool false) ?_;refine zn (cK [2] (fun L => ?_));refine cw_ret (qw_ret [.bool false] rfl ⟨(by kernel_rfl), trivial⟩ ?_);exact ⟨rb (show Orb.ok o = false by simp [Orb.ok, Bg, Bk]).symm, hE⟩
 ·
  refine pS (sc 127 #[iv o.p, iv 20, iv 2000] ((orbit_in_r (r := false) o.p 20 2000 _ (Bg)).mono ?_));rintro e Dy ⟨rfl, hb⟩;refine mv2 hb hE B7 fun hE B7=>?_;have D2 := hb.size;refine ⟨_, rfl, pT (.bool false) ?_⟩;refine pK ?_;refine pK ?_;refine pK ?_;refine pK ?_;refine pD (.bool false) (.bool false) ?_;refine pK ?_;refine pK ?_;refine pK ?_;refine pK ?_;refine pK ?_;refine pK ?_;refine pD (.bool false) (.bool false) ?_;refine zn (cK [1,3] (fun L => ?_));refine zc (zp (pT (pw O1 2) ?_));refine pU (iv o.lo) (xl (ld3 (Bc.c B7))) ?_;rcases Bool.eq_false_or_eq_true (Globe.inB o.lo 0 23999) with Bm | Bm
  ·
   have Cg := Globe.inB_t.1 Bm;refine pS (sc 127 #[iv o.lo, iv 0, iv 23999] ((orbit_in_r (r := true) o.lo 0 23999 _ (Bm)).mono ?_));rintro e Dz ⟨rfl, hb⟩;refine mv2 hb hE B7 fun hE B7=>?_;have D3 := hb.size;refine ⟨_, rfl, pD (.bool true) (pw O1 3) ?_⟩;refine pU (iv o.hi) (xl (ld3 (Be.c B7))) ?_;rcases Bool.eq_false_or_eq_true (Globe.inB o.hi 0 23999) with Bt | Bt
   ·
    have Ch := Globe.inB_t.1 Bt;refine pS (sc 127 #[iv o.hi, iv 0, iv 23999] ((orbit_in_r (r := true) o.hi 0 23999 _ (Bt)).mono ?_));rintro e E0 ⟨rfl, hb⟩;refine mv2 hb hE B7 fun hE B7=>?_;have D4 := hb.size;refine ⟨_, rfl, pD (.bool true) (.bool true) ?_⟩;refine pT (pw O1 2) ?_;refine pU (iv o.lo) (xl (ld3 (Bc.c B7))) ?_;refine pT (pw O1 3) ?_;refine pU (iv o.hi) (xl (ld3 (Be.c B7))) ?_
    by_cases C0 : (o.lo : Int) < (o.hi : Int)
    ·
     refine pU (.bool true) (ed ((o.lo : Int) < (o.hi : Int)) (C0)) ?_;refine pD (.bool true) (.bool true) ?_;refine zn (cK [1,3,4] (fun L => ?_));refine zc (zp (pD (.bool false) (.bool false) ?_));refine pK ?_;refine pD (.bool false) (.bool false) ?_;refine pK ?_;refine pK ?_;refine pK ?_;refine pD (.bool false) (.bool false) ?_;refine pK ?_;refine pK ?_;refine pK ?_;refine pD (.bool false) (.bool false) ?_;refine pK ?_;refine pK ?_;refine pK ?_;refine pD (.bool false) (.bool false) ?_;refine zn (cK [2] (fun L => ?_));refine cw_ret (qw_ret [.bool false] rfl ⟨(by kernel_rfl), trivial⟩ ?_);exact ⟨rb (show Orb.ok o = false by simp [Orb.ok, Bg, Bm, Bt, C0]).symm, hE⟩
    ·
     refine pU (.bool false) (en ((o.lo : Int) < (o.hi : Int)) (C0)) ?_;refine pD (.bool false) (.bool false) ?_;refine zn (cK [1,3,4] (fun L => ?_));refine zc (zp (pD (.bool false) (.bool false) ?_));refine pK ?_;refine pD (.bool false) (.bool false) ?_;refine pK ?_;refine pK ?_;refine pK ?_;refine pD (.bool false) (.bool false) ?_;refine pK ?_;refine pK ?_;refine pK ?_;refine pD (.bool false) (.bool false) ?_;refine pK ?_;refine pK ?_;refine pK ?_;refine pD (.bool false) (.bool false) ?_;refine zn (cK [2] (fun L => ?_));refine cw_ret (qw_ret [.bool false] rfl ⟨(by kernel_rfl), trivial⟩ ?_);exact ⟨rb (show Orb.ok o = false by simp [Orb.ok, Bg, Bm, Bt, C0]).symm, hE⟩
   ·
    refine pS (sc 127 #[iv o.hi, iv 0, iv 23999] ((orbit_in_r (r := false) o.hi 0 23999 _ (Bt)).mono ?_));rintro e E1 ⟨rfl, hb⟩;replace hE := hE.trans hb;have D5 := hb.size;refine ⟨_, rfl, pD (.bool false) (.bool false) ?_⟩;refine pK ?_;refine pK ?_;refine pK ?_;refine pK ?_;refine pK ?_;refine pD (.bool false) (.bool false) ?_;refine zn (cK [1,3,4] (fun L => ?_));refine zc (zp (pD (.bool false) (.bool false) ?_));refine pK ?_;refine pD (.bool false) (.bool false) ?_;refine pK ?_;refine pK ?_;refine pK ?_;refine pD (.bool false) (.bool false) ?_;refine pK ?_;refine pK ?_;refine pK ?_;refine pD (.bool false) (.bool false) ?_;refine pK ?_;refine pK ?_;refine pK ?_;refine pD (.bool false) (.bool false) ?_;refine zn (cK [2] (fun L => ?_));refine cw_ret (qw_ret [.bool false] rfl ⟨(by kernel_rfl), trivial⟩ ?_);exact ⟨rb (show Orb.ok o = false by simp [Orb.ok, Bg, Bm, Bt]).symm, hE⟩
  ·
   refine pS (sc 127 #[iv o.lo, iv 0, iv 23999] ((orbit_in_r (r := false) o.lo 0 23999 _ (Bm)).mono ?_));rintro e E2 ⟨rfl, hb⟩;replace hE := hE.trans hb;have D6 := hb.size;refine ⟨_, rfl, pT (.bool false) ?_⟩;refine pK ?_;refine pK ?_;refine pK ?_;refine pD (.bool false) (.bool false) ?_;refine pK ?_;refine pK ?_;refine pK ?_;refine pK ?_;refine pK ?_;refine pD (.bool false) (.bool false) ?_;refine zn (cK [1,3,4] (fun L => ?_));refine zc (zp (pD (.bool false) (.bool false) ?_));refine pK ?_;refine pD (.bool false) (.bool false) ?_;refine pK ?_;refine pK ?_;refine pK ?_;refine pD (.bool false) (.bool false) ?_;refine pK ?_;refine pK ?_;refine pK ?_;refine pD (.bool false) (.bool false) ?_;refine pK ?_;refine pK ?_;refine pK ?_;refine pD (.bool false) (.bool false) ?_;refine zn (cK [2] (fun L => ?_));refine cw_ret (qw_ret [.bool false] rfl ⟨(by kernel_rfl), trivial⟩ ?_);exact ⟨rb (show Orb.ok o = false by simp [Orb.ok, Bg, Bm]).symm, hE⟩
theorem oValid_r {o : Orb} {r : Bool} (w : World) (hr : Orb.ok o = r) : Calls Tryz.prog 93 #[.agg #[.int .i64 o.p, .int .i64 o.f, .int .i64 o.lo, .int .i64 o.hi, .int .i64 o.nd, .int .i64 o.tn, .int .i64 o.sl]] w fun e w' => e = .returned (.bool r) ∧ Ext w w' := hr ▸ oValid_c o w
end Go.Proofs.YtajdohcgjgknmaaGreatDoor

namespace Go.Proofs.YtajdohcgjgknmaaGreatDoor
set_option maxRecDepth 1000000
set_option maxHeartbeats 4000000
set_option synthInstance.maxHeartbeats 0
set_option synthInstance.maxSize 9999
open Go.RowKit
def Tz67_0 : List Row := [(some 14, [1], []), (some 15, [14], [0]), (some 16, [15], [1]), (some 17, [1], []), (some 18, [17], [3]), (some 19, [18], [4]), (some 20, [1], []), (some 21, [20], [6]), (some 22, [21], [7]), (some 23, [19, 22], [5, 8]), (some 24, [23], [9]), (some 25, [3], []), (some 26, [1], []), (some 27, [26], [12]), (some 28, [27], [13]), (some 29, [3], []), (some 30, [28, 29], [14, 15]), (some 31, [25, 30], [11, 16]), (some 32, [24, 31], [10, 17]), (some 33, [1], []), (some 34, [33], [19]), (some 35, [34], [20]), (some 36, [32, 35], [18, 21]), (some 37, [16, 36], [2, 22]), (some 2, [37], [23, 0, 1, 2, 3, 4, 5, 6, 7, 8, 9, 10, 11, 12, 13, 14, 15, 16, 17, 18, 19, 20, 21, 22, 23])]
def Tz67_1 : List Row := [(some 3, [1], []), (some 4, [3], [0]), (some 5, [4], [1]), (some 6, [1], []), (some 7, [6], [3, 1]), (some 8, [7], [4]), (some 9, [5, 8], [2, 5]), (none, [2, 9], [6, 4, 0, 1, 2, 3, 4, 5, 6])]
theorem column_c (o : Orb) (t : Int) (w : World) (hok : Orb.ok o = true) (h0 : -10 ≤ t) (h1 : t ≤ 1000010) : Calls Tryz.prog 147 #[.agg #[iv o.p, iv o.f, iv o.lo, iv o.hi, iv o.nd, iv o.tn, iv o.sl, iv t]] w fun e w' => e = .returned (iv (Orb.col o t)) ∧ Ext w w' := by
 have hq0 := Orb.ok_t.1 hok;have hm := Orb.turn_bd hok t h0 h1;refine calls_cw 14 [(0, .agg #[iv o.p, iv o.f, iv o.lo, iv o.hi, iv o.nd, iv o.tn, iv o.sl, iv t])] Tryz.func147 rfl Tryz.ntmps147 (by kernel_rfl) (by kernel_rfl) (fun L => ?_);have hE := Ext.refl w;refine zc (zp (pS (sw 166 #[iv o.p, iv o.f, iv o.lo, iv o.hi, iv o.nd, iv o.tn, iv o.sl, iv t] ?_)));intro O1 X2 hzO1 hyO1 hb hbx;have ⟨bO1_0, bO1_1, bO1_2, bO1_3, bO1_4, bO1_5, bO1_6, bO1_7⟩ := bq8 hbx;replace hE := hE.trans hb;have hs3 := hb.size;have lt4 := bO1_0.lt;refine pT (iv 0) ?_;refine pl_nil (qw_then ?_);refine cw_seq ?_;have hX5 := Ext.refl X2;refine zp (pD (pw O1 0) (pw O1 4) ?_);refine pU (iv o.nd) (xl (ld3 (bO1_4.1))) ?_;refine pD (pw O1 0) (pw O1 5) ?_;refine pU (iv o.tn) (xl (ld3 (bO1_5.1))) ?_;refine pT (pw O1 7) ?_;refine pU (iv t) (xl (ld3 (bO1_7.1))) ?_;refine pU (iv (o.tn * t : Int)) (ew (by omega) (by omega)) ?_;refine pU (iv (o.nd + (o.tn * t) : Int)) (ew (by omega) (by omega)) ?_;refine pS (sc 159 #[iv (o.nd + (o.tn * t) : Int), iv 48000] ((around_c (o.nd + (o.tn * t)) 48000 _ (by omega) (by omega)).mono ?_));rintro e w6 ⟨rfl, hb⟩;replace hE := hE.trans hb;have hs7 := hb.size;refine ⟨_, rfl, pT (iv ((o.nd + (o.tn * t)) % 48000 : Int)) ?_⟩;refine zn (cw_ret (qw_ret [iv ((o.nd + (o.tn * t)) % 48000 : Int)] rfl ⟨(by kernel_rfl), trivial⟩ ?_));exact ⟨rfl, hE⟩
theorem srow_c (o : Orb) (t : Int) (w : World) (hok : Orb.ok o = true) (h0 : -10 ≤ t) (h1 : t ≤ 1000010) : Calls Tryz.prog 148 #[.agg #[iv o.p, iv o.f, iv o.lo, iv o.hi, iv o.nd, iv o.tn, iv o.sl, iv t]] w fun e w' => e = .returned (iv (Orb.row o t)) ∧ Ext w w' := by
 have Bt := Orb.ok_t.1 hok;have hu := Orb.ph_bd hok t;have hv := Orb.up_bd hok t;obtain ⟨Bk, Bq⟩ := Orb.mul_bd hok t;have Br := Orb.mul_le hok;have hr := Orb.row_bd hok t;refine calls_cw 38 [(0, .agg #[iv o.p, iv o.f, iv o.lo, iv o.hi, iv o.nd, iv o.tn, iv o.sl, iv t])] Tryz.func148 rfl Tryz.ntmps148 (by kernel_rfl) (by kernel_rfl) (fun L => ?_);have hE := Ext.refl w;refine zc (zp (pS (sw 166 #[iv o.p, iv o.f, iv o.lo, iv o.hi, iv o.nd, iv o.tn, iv o.sl, iv t] ?_)));intro O1 X2 Bp Bm hb hbx;have ⟨Ba, Bf, Bc, Be, Bh, Bi, Bj, Bg⟩ := bq8 hbx;replace hE := hE.trans hb;have Bu := hb.size;have Bx := Ba.lt;refine pT (iv 0) ?_;refine pl_nil (qw_then ?_);refine cw_seq ?_;have Bb := Ext.refl X2;refine zp (pT (pw O1 7) ?_);refine pU (iv t) (xl (ld3 (Bg.1))) ?_;refine pD (pw O1 0) (pw O1 1) ?_;refine pU (iv o.f) (xl (ld3 (Bf.1))) ?_;refine pU (iv (t + o.f : Int)) (ew (by omega) (by omega)) ?_;refine pD (pw O1 0) (pw O1 0) ?_;refine pU (iv o.p) (xl (ld3 (Ba.1))) ?_;refine pS (sc 159 #[iv (t + o.f : Int), iv o.p] ((around_c (t + o.f) o.p _ (by omega) (by omega)).mono ?_));rintro e w6 ⟨rfl, hb⟩;refine mv2 hb hE Bb fun hE Bb=>?_;have Bv := hb.size;refine ⟨_, rfl, pT (iv (Orb.ph o t : Int)) ?_⟩;refine zn (zc (dE Tz67_0 (fun w' => w'.cell? ⟨O1, 2, none⟩ = some (iv o.lo) ∧ w'.cell? ⟨O1, 3, none⟩ = some (iv o.hi) ∧ w'.cell? ⟨O1, 0, none⟩ = some (iv o.p)) (⟨(Bc.x Bb).1, (Be.x Bb).1, (Ba.x Bb).1⟩) (fun ops Q X8 hb hL hR hK => ?_)));refine mv2 hb hE Bb fun hE Bb=>?_;have Bw := hb.size;have B7 := A3 (Bc.c Bb) (Be.c Bb) (Ba.c Bb);refine wW 0 (pw O1 0) 1 (pw O1 2) hR B7 ?_;refine wM 2 (iv o.lo) hR (fun w hS => ld3 (hS.1)) B7 ?_;refine wW 3 (pw O1 0) 4 (pw O1 3) hR B7 ?_;refine wM 5 (iv o.hi) hR (fun w hS => ld3 (hS.2.1)) B7 ?_;refine wW 6 (pw O1 0) 7 (pw O1 2) hR B7 ?_;refine wM 8 (iv o.lo) hR (fun w hS => ld3 (hS.1)) B7 ?_;refine wL 9 (iv (o.hi - o.lo : Int)) hR (fun w _ => ev_wrap (by kernel_rfl) (by omega) (by omega)) B7 ?_;refine wL 10 (iv ((o.hi - o.lo) * 2 : Int)) hR (fun w _ => ev_wrap (by kernel_rfl) (by omega) (by omega)) B7 ?_;refine wW 11 (iv (Orb.ph o t : Int)) 12 (pw O1 0) hR B7 ?_;refine wV 13 (pw O1 0) hR B7 ?_;refine wM 14 (iv o.p) hR (fun w hS => ld3 (hS.2.2)) B7 ?_;refine wV 15 (iv (Orb.ph o t : Int)) hR B7 ?_;refine wL 16 (iv (o.p - (Orb.ph o t) : Int)) hR (fun w _ => ev_wrap (by kernel_rfl) (by omega) (by omega)) B7 ?_;refine wL 17 (iv (Orb.up o t : Int)) hR (fun w _ => ev_int (show _ = Result.ok (Next.value (Value.int .i64 (if (o.p - Orb.ph o t) < (Orb.ph o t) then (o.p - Orb.ph o t) else (Orb.ph o t)))) _ from by kernel_rfl) (by unfold Orb.up; split <;> omega)) B7 ?_;refine wL 18 (iv (((o.hi - o.lo) * 2) * (Orb.up o t) : Int)) hR (fun w _ => ev_wrap (by kernel_rfl) (by omega) (by omega)) B7 ?_;refine wW 19 (pw O1 0) 20 (pw O1 0) hR B7 ?_;refine wM 21 (iv o.p) hR (fun w hS => ld3 (hS.2.2)) B7 ?_;refine wL 22 (iv ((o.hi - o.lo) * 2 * Orb.up o t / o.p : Int)) hR (fun w _ => ev_int (ex_bin (a := (o.hi - o.lo) * 2 * Orb.up o t) (b := o.p) rfl (by kernel_rfl) (by kernel_rfl) (bin_tdiv (by omega) (by omega) (by omega))) (Int.tdiv_eq_ediv_of_nonneg Bk)) B7 ?_;refine wL 23 (iv (Orb.row o t : Int)) hR (fun w _ => ev_wrap (show _ = Result.ok (Next.value (Value.int .i64 (IntKind.i64.wrap (Orb.row o t)))) _ from by kernel_rfl) (by omega) (by omega)) B7 ?_;refine wV 24 (iv (Orb.row o t : Int)) hR B7 ?_;refine we hL hR hK ?_;refine zq (cK [2] (fun L => ?_));refine cw_ret (qw_ret [iv (Orb.row o t : Int)] rfl ⟨(by kernel_rfl), trivial⟩ ?_);exact ⟨rfl, hE⟩
theorem cell_c (o : Orb) (t : Int) (w : World) (hok : Orb.ok o = true) (h0 : -10 ≤ t) (h1 : t ≤ 1000010) : Calls Tryz.prog 143 #[.agg #[iv o.p, iv o.f, iv o.lo, iv o.hi, iv o.nd, iv o.tn, iv o.sl, iv t]] w fun e w' => e = .returned (.agg #[iv ((Orb.cx o t : Nat) : Int), iv ((Orb.cy o t : Nat) : Int)]) ∧ Ext w w' := by
 have hc := Orb.col_bd (o := o) t;have hr := Orb.row_bd hok t;refine calls_cw 10 [(0, .agg #[iv o.p, iv o.f, iv o.lo, iv o.hi, iv o.nd, iv o.tn, iv o.sl, iv t])] Tryz.func143 rfl Tryz.ntmps143 (by kernel_rfl) (by kernel_rfl) (fun L => ?_);have hE := Ext.refl w;refine zc (zp (pS (sw 166 #[iv o.p, iv o.f, iv o.lo, iv o.hi, iv o.nd, iv o.tn, iv o.sl, iv t] ?_)));intro O1 X2 Cg Ce hb hbx;have ⟨Bc, Be, Bf, Bg, Bh, Bi, Bj, Bk⟩ := bq8 hbx;replace hE := hE.trans hb;have Cc := hb.size;have Ch := Bc.lt;refine pS (sw 65 #[iv 0, iv 0] ?_);intro O5 X6 C3 Cf hb hbx;have ⟨Bx, C0⟩ := bq2 hbx;refine mv9 hb hE Bc Be Bf Bg Bh Bi Bj Bk fun hE Bc Be Bf Bg Bh Bi Bj Bk=>?_;have Ck := hb.size;have Cl := Bx.lt;refine pl_nil (qw_then ?_);refine cw_seq ?_;have B7 := Ext.refl X6;refine dE Tz67_1 (fun w' => w'.cell? ⟨O1, 0, none⟩ = some (iv o.p) ∧ w'.cell? ⟨O1, 1, none⟩ = some (iv o.f) ∧ w'.cell? ⟨O1, 2, none⟩ = some (iv o.lo) ∧ w'.cell? ⟨O1, 3, none⟩ = some (iv o.hi) ∧ w'.cell? ⟨O1, 4, none⟩ = some (iv o.nd) ∧ w'.cell? ⟨O1, 5, none⟩ = some (iv o.tn) ∧ w'.cell? ⟨O1, 6, none⟩ = some (iv o.sl) ∧ w'.cell? ⟨O1, 7, none⟩ = some (iv t)) (⟨Bc.1, Be.1, Bf.1, Bg.1, Bh.1, Bi.1, Bj.1, Bk.1⟩) (fun ops Q Cj hb hL hR hK => ?_);refine mv2 hb hE B7 fun hE B7=>?_;have C9 := hb.size;have C1 := A8 (Bc.c B7) (Be.c B7) (Bf.c B7) (Bg.c B7) (Bh.c B7) (Bi.c B7) (Bj.c B7) (Bk.c B7);refine wM 0 (.agg #[iv o.p, iv o.f, iv o.lo, iv o.hi, iv o.nd, iv o.tn, iv o.sl, iv t]) hR (fun w hS => ld166 (hS.1) (hS.2.1) (hS.2.2.1) (hS.2.2.2.1) (hS.2.2.2.2.1) (hS.2.2.2.2.2.1) (hS.2.2.2.2.2.2.1) (hS.2.2.2.2.2.2.2)) C1 ?_;refine wM 3 (.agg #[iv o.p, iv o.f, iv o.lo, iv o.hi, iv o.nd, iv o.tn, iv o.sl, iv t]) hR (fun w hS => ld166 (hS.1) (hS.2.1) (hS.2.2.1) (hS.2.2.2.1) (hS.2.2.2.2.1) (hS.2.2.2.2.2.1) (hS.2.2.2.2.2.2.1) (hS.2.2.2.2.2.2.2)) C1 ?_;refine wC 1 147 #[.agg #[iv o.p, iv o.f, iv o.lo, iv o.hi, iv o.nd, iv o.tn, iv o.sl, iv t]] hR ((column_c o t _ hok (by omega) (by omega)).mono ?_);rintro e Cm ⟨rfl, hb⟩;refine mv2 hb hE B7 fun hE B7=>?_;have Ca := hb.size;have C2 := A8 (Bc.c B7) (Be.c B7) (Bf.c B7) (Bg.c B7) (Bh.c B7) (Bi.c B7) (Bj.c B7) (Bk.c B7);refine ⟨_, rfl, C2, ?_⟩;refine wL 2 (iv ((Orb.cx o t : Nat) : Int)) hR (fun w _ => ev_int (ex_bin (a := Orb.col o t) (b := 1000) rfl (by kernel_rfl) (by kernel_rfl) (bin_tdiv (by omega) (by omega) (by omega))) ((Int.tdiv_eq_ediv_of_nonneg hc.1).trans (Orb.cx_z o t))) C2 ?_;refine wC 4 148 #[.agg #[iv o.p, iv o.f, iv o.lo, iv o.hi, iv o.nd, iv o.tn, iv o.sl, iv t]] hR ((srow_c o t _ hok (by omega) (by omega)).mono ?_);rintro e Ci ⟨rfl, hb⟩;refine mv2 hb hE B7 fun hE B7=>?_;have Cb := hb.size;have Bz := A8 (Bc.c B7) (Be.c B7) (Bf.c B7) (Bg.c B7) (Bh.c B7) (Bi.c B7) (Bj.c B7) (Bk.c B7);refine ⟨_, rfl, Bz, ?_⟩;refine wL 5 (iv ((Orb.cy o t : Nat) : Int)) hR (fun w _ => ev_int (ex_bin (a := Orb.row o t) (b := 1000) rfl (by kernel_rfl) (by kernel_rfl) (bin_tdiv (by omega) (by omega) (by omega))) ((Int.tdiv_eq_ediv_of_nonneg hr.1).trans (Orb.cy_z hok t))) Bz ?_;refine wV 6 (.agg #[iv ((Orb.cx o t : Nat) : Int), iv ((Orb.cy o t : Nat) : Int)]) hR Bz ?_;have Bm := (Bc.x B7);have Bp := (Be.x B7);have Bq := (Bf.x B7);have Br := (Bg.x B7);have Bt := (Bh.x B7);have Bu := (Bi.x B7);have Bv := (Bj.x B7);have Bw := (Bk.x B7);have Ba := (Bx.x B7);have Bb := (C0.x B7);refine wS 7 hR (sn_set2 (O := O5) (j := 0) (v := iv ((Orb.cx o t : Nat) : Int)) (v' := iv ((Orb.cy o t : Nat) : Int)) (ex_store (p := pw O5 0) (v := .agg #[iv ((Orb.cx o t : Nat) : Int), iv ((Orb.cy o t : Nat) : Int)]) rfl (by kernel_rfl) (by kernel_rfl) (st65 Ba.1 Ba.2 Bb.1 Bb.2)) Ba Bb ?_);intro C8 ho Ba Bb hk;replace hE := ho.ext hE (T Cc (Nat.le_of_eq C3));have q9 := ho.bx O1 (Nat.ne_of_gt (Nat.lt_of_lt_of_le Ch (Nat.le_of_eq C3)));replace Bm := q9 Bm;replace Bp := q9 Bp;replace Bq := q9 Bq;replace Br := q9 Br;replace Bt := q9 Bt;replace Bu := q9 Bu;replace Bv := q9 Bv;replace Bw := q9 Bw;clear q9;have Cd := Nat.le_of_eq ho.size.symm;clear ho hk;have C4 := A8 (Bm.1) (Bp.1) (Bq.1) (Br.1) (Bt.1) (Bu.1) (Bv.1) (Bw.1);refine ⟨C4, ?_⟩;refine we hL hR hK ?_;refine zq (cw_ret (qw_ret [.agg #[iv ((Orb.cx o t : Nat) : Int), iv ((Orb.cy o t : Nat) : Int)]] rfl ⟨⟨_, by kernel_rfl, res_ld (ld65 (Ba.1) (Bb.1))⟩, trivial⟩ ?_));exact ⟨rfl, hE⟩
theorem at_y (o : Orb) (t d : Int) (w : World) (hat : Orb.atB o t d = true) : Calls Tryz.prog 142 #[.agg #[iv o.p, iv o.f, iv o.lo, iv o.hi, iv o.nd, iv o.tn, iv o.sl], iv t, iv d] w fun e w' => e = .returned (.tuple #[.agg #[iv o.p, iv o.f, iv o.lo, iv o.hi, iv o.nd, iv o.tn, iv o.sl, iv (t - d)], .bool true]) ∧ Ext w w' := by
 replace hat : (Globe.inB t 0 1000000 = true ∧ Globe.inB d (-10) 10 = true) ∧ Orb.ok o = true := by simpa [Orb.atB] using hat
 have h1 := Globe.inB_t.1 hat.1.1;have h2 := Globe.inB_t.1 hat.1.2;refine calls_cw 25 [(2, iv d), (1, iv t), (0, .agg #[iv o.p, iv o.f, iv o.lo, iv o.hi, iv o.nd, iv o.tn, iv o.sl])] Tryz.func142 rfl Tryz.ntmps142 (by kernel_rfl) (by kernel_rfl) (fun L => ?_);have hE := Ext.refl w;refine zc (zp (pS (sw 26 #[iv o.p, iv o.f, iv o.lo, iv o.hi, iv o.nd, iv o.tn, iv o.sl] ?_)));intro O1 X2 Cs Cq hb hbx;have ⟨Bj, Bk, Bm, Bp, Bq, Br, Bt⟩ := bq7 hbx;replace hE := hE.trans hb;have Co := hb.size;have Ct := Bj.lt;refine pS (sw 166 #[iv 0, iv 0, iv 0, iv 0, iv 0, iv 0, iv 0, iv 0] ?_);intro O5 X6 Cb Cr hb hbx;have ⟨C2, C3, C4, C5, C6, C8, C9, Ca⟩ := bq8 hbx;refine mv7 hb hE Bj Bk Bm Bp Bq Br fun hE Bj Bk Bm Bp Bq Br=>?_;replace Bt := Bt.x hb;have Cv := hb.size;have Cw := C2.lt;refine pT (.bool false) ?_;refine pl_nil (qw_then ?_);refine cw_seq ?_;have B7 := Ext.refl X6;refine zp (pT (iv t) ?_);refine pS (sc 127 #[iv t, iv 0, iv 1000000] ((orbit_in_r (r := true) t 0 1000000 _ (hat.1.1)).mono ?_));rintro e Cx ⟨rfl, hb⟩;refine mv2 hb hE B7 fun hE B7=>?_;have Cl := hb.size;refine ⟨_, rfl, pD (.bool true) (iv d) ?_⟩;refine pS (sc 127 #[iv d, iv (-10 : Int), iv 10] ((orbit_in_r (r := true) d (-10) 10 _ (hat.1.2)).mono ?_));rintro e Cy ⟨rfl, hb⟩;refine mv2 hb hE B7 fun hE B7=>?_;have Cm := hb.size;refine ⟨_, rfl, pD (.bool true) (.bool true) ?_⟩;refine pU (.agg #[iv o.p, iv o.f, iv o.lo, iv o.hi, iv o.nd, iv o.tn, iv o.sl]) (xl (ld26 (Bj.c B7) (Bk.c B7) (Bm.c B7) (Bp.c B7) (Bq.c B7) (Br.c B7) (Bt.c B7))) ?_;refine pS (sc 93 #[.agg #[iv o.p, iv o.f, iv o.lo, iv o.hi, iv o.nd, iv o.tn, iv o.sl]] ((oValid_r (r := true) _ (hat.2)).mono ?_));rintro e Cu ⟨rfl, hb⟩;refine mv2 hb hE B7 fun hE B7=>?_;have Cn := hb.size;refine ⟨_, rfl, pD (.bool true) (.bool true) ?_⟩;refine zn (cK [1,2,3,6,8] (fun L => ?_));refine zc (zp (pU (.agg #[iv o.p, iv o.f, iv o.lo, iv o.hi, iv o.nd, iv o.tn, iv o.sl]) (xl (ld26 (Bj.c B7) (Bk.c B7) (Bm.c B7) (Bp.c B7) (Bq.c B7) (Br.c B7) (Bt.c B7))) ?_));refine pD (iv t) (iv d) ?_;refine pU (iv (t - d : Int)) (ew (by omega) (by omega)) ?_;refine pD (.agg #[iv o.p, iv o.f, iv o.lo, iv o.hi, iv o.nd, iv o.tn, iv o.sl, iv (t - d : Int)]) (.bool true) ?_;have Bu := (Bj.x B7);have Bv := (Bk.x B7);have Bw := (Bm.x B7);have Bx := (Bp.x B7);have Bz := (Bq.x B7);have C0 := (Br.x B7);have C1 := (Bt.x B7);have Ba := (C2.x B7);have Bb := (C3.x B7);have Bc := (C4.x B7);have Be := (C5.x B7);have Bf := (C6.x B7);have Bg := (C8.x B7);have Bh := (C9.x B7);have Bi := (Ca.x B7);refine pP (sn_setK8 (O := O5) (j := 0) (v0 := iv o.p) (v1 := iv o.f) (v2 := iv o.lo) (v3 := iv o.hi) (v4 := iv o.nd) (v5 := iv o.tn) (v6 := iv o.sl) (v7 := iv (t - d : Int)) (xt (pw O5 0) (.agg #[iv o.p, iv o.f, iv o.lo, iv o.hi, iv o.nd, iv o.tn, iv o.sl, iv (t - d : Int)]) (st166 Ba.1 Ba.2 Bb.1 Bb.2 Bc.1 Bc.2 Be.1 Be.2 Bf.1 Bf.2 Bg.1 Bg.2 Bh.1 Bh.2 Bi.1 Bi.2)) Ba Bb Bc Be Bf Bg Bh Bi ?_);intro Ck ho Ba Bb Bc Be Bf Bg Bh Bi hk;replace hE := ho.ext hE (T Co (Nat.le_of_eq Cb));have q9 := ho.bx O1 (Nat.ne_of_gt (Nat.lt_of_lt_of_le Ct (Nat.le_of_eq Cb)));clear q9;have Cp := Nat.le_of_eq ho.size.symm;clear ho hk;refine pT (.bool true) ?_;refine zn (cw_ret (qw_ret [.agg #[iv o.p, iv o.f, iv o.lo, iv o.hi, iv o.nd, iv o.tn, iv o.sl, iv (t - d : Int)], .bool true] rfl ⟨⟨_, by kernel_rfl, res_ld (ld166 (Ba.1) (Bb.1) (Bc.1) (Be.1) (Bf.1) (Bg.1) (Bh.1) (Bi.1))⟩, (by kernel_rfl), trivial⟩ ?_));exact ⟨rfl, hE⟩
theorem At_y (o : Orb) (t d : Int) (w : World) (hat : Orb.atB o t d = true) : Calls Tryz.prog 129 #[.agg #[iv o.p, iv o.f, iv o.lo, iv o.hi, iv o.nd, iv o.tn, iv o.sl], iv t, iv d] w fun e w' => e = .returned (.tuple #[.agg #[iv ((Orb.cx o (t - d) : Nat) : Int), iv ((Orb.cy o (t - d) : Nat) : Int)], iv 0]) ∧ Ext w w' := by
 have Cn : (Globe.inB t 0 1000000 = true ∧ Globe.inB d (-10) 10 = true) ∧ Orb.ok o = true := by simpa [Orb.atB] using hat
 have h1 := Globe.inB_t.1 Cn.1.1;have h2 := Globe.inB_t.1 Cn.1.2;have hok := Cn.2;refine calls_cw 22 [(2, iv d), (1, iv t), (0, .agg #[iv o.p, iv o.f, iv o.lo, iv o.hi, iv o.nd, iv o.tn, iv o.sl])] Tryz.func129 rfl Tryz.ntmps129 (by kernel_rfl) (by kernel_rfl) (fun L => ?_);have hE := Ext.refl w;refine zc (zp (pS (sw 26 #[iv o.p, iv o.f, iv o.lo, iv o.hi, iv o.nd, iv o.tn, iv o.sl] ?_)));intro O1 X2 D5 D3 hb hbx;have ⟨Bx, C0, C1, C2, C3, C4, C5⟩ := bq7 hbx;replace hE := hE.trans hb;have Co := hb.size;have D7 := Bx.lt;refine pS (sw 65 #[iv 0, iv 0] ?_);intro O5 X6 Ck D4 hb hbx;have ⟨Cf, Ch⟩ := bq2 hbx;refine mv7 hb hE Bx C0 C1 C2 C3 C4 fun hE Bx C0 C1 C2 C3 C4=>?_;replace C5 := C5.x hb;have D2 := hb.size;have D8 := Cf.lt;refine pT (iv 0) ?_;refine pl_nil (qw_then ?_);refine cw_seq ?_;have Bz := Ext.refl X6;refine zp (pU (.agg #[iv o.p, iv o.f, iv o.lo, iv o.hi, iv o.nd, iv o.tn, iv o.sl]) (xl (ld26 (Bx.1) (C0.1) (C1.1) (C2.1) (C3.1) (C4.1) (C5.1))) ?_);refine pD (iv t) (iv d) ?_;refine pS (sc 142 #[.agg #[iv o.p, iv o.f, iv o.lo, iv o.hi, iv o.nd, iv o.tn, iv o.sl], iv t, iv d] ((at_y o t d _ (hat)).mono ?_));rintro e Da ⟨rfl, hb⟩;refine mv2 hb hE Bz fun hE Bz=>?_;have Cg := hb.size;refine ⟨_, rfl, pD (.tuple #[.agg #[iv o.p, iv o.f, iv o.lo, iv o.hi, iv o.nd, iv o.tn, iv o.sl, iv (t - d : Int)], .bool true]) (.agg #[iv o.p, iv o.f, iv o.lo, iv o.hi, iv o.nd, iv o.tn, iv o.sl, iv (t - d : Int)]) ?_⟩;refine pT (.bool true) ?_;refine pS (sw 166 #[iv 0, iv 0, iv 0, iv 0, iv 0, iv 0, iv 0, iv 0] ?_);intro Cl Cw Ce Cv hb hbx;have ⟨Ba, Be, Bf, Bg, Bh, Bi, Bj, Bk⟩ := bq8 hbx;refine mv2 hb hE Bz fun hE Bz=>?_;have Cy := hb.size;have D6 := Ba.lt;refine pP (sn_setK8 (O := Cl) (j := 0) (v0 := iv o.p) (v1 := iv o.f) (v2 := iv o.lo) (v3 := iv o.hi) (v4 := iv o.nd) (v5 := iv o.tn) (v6 := iv o.sl) (v7 := iv (t - d : Int)) (xt (pw Cl 0) (.agg #[iv o.p, iv o.f, iv o.lo, iv o.hi, iv o.nd, iv o.tn, iv o.sl, iv (t - d : Int)]) (st166 Ba.1 Ba.2 Be.1 Be.2 Bf.1 Bf.2 Bg.1 Bg.2 Bh.1 Bh.2 Bi.1 Bi.2 Bj.1 Bj.2 Bk.1 Bk.2)) Ba Be Bf Bg Bh Bi Bj Bk ?_);intro Cm ho Ba Be Bf Bg Bh Bi Bj Bk hk;replace hE := ho.ext hE (T (T Co (T D2 Cg)) (Nat.le_of_eq Ce));replace Bz := ho.ext Bz (T Cg (Nat.le_of_eq Ce));have Cz := Nat.le_of_eq ho.size.symm;clear ho hk;refine pT (.bool true) ?_;refine zn (cK [6,8,9] (fun L => ?_));refine cw_seq ?_;refine cw_seq ?_;have B7 := Ext.refl Cm;refine zp (pD (.bool true) (.bool false) ?_);refine zn (zf ?_);refine cw_skip (zq (zc (zp (pU (.agg #[iv o.p, iv o.f, iv o.lo, iv o.hi, iv o.nd, iv o.tn, iv o.sl, iv (t - d : Int)]) (xl (ld166 (Ba.1) (Be.1) (Bf.1) (Bg.1) (Bh.1) (Bi.1) (Bj.1) (Bk.1))) ?_))));refine pS (sc 143 #[.agg #[iv o.p, iv o.f, iv o.lo, iv o.hi, iv o.nd, iv o.tn, iv o.sl, iv (t - d : Int)]] ((cell_c o (t - d) _ hok (by omega) (by omega)).mono ?_));rintro e D9 ⟨rfl, hb⟩;refine mv2 hb hE B7 fun hE B7=>?_;have D0 := hb.size;refine ⟨_, rfl, ?_⟩;have C6 := (Bx.x (Bz.trans B7));have C8 := (C0.x (Bz.trans B7));have C9 := (C1.x (Bz.trans B7));have Ca := (C2.x (Bz.trans B7));have Cb := (C3.x (Bz.trans B7));have Cc := (C4.x (Bz.trans B7));have Cd := (C5.x (Bz.trans B7));have Bb := (Cf.x (Bz.trans B7));have Bc := (Ch.x (Bz.trans B7));have Bm := (Ba.x B7);have Bp := (Be.x B7);have Bq := (Bf.x B7);have Br := (Bg.x B7);have Bt := (Bh.x B7);have Bu := (Bi.x B7);have Bv := (Bj.x B7);have Bw := (Bk.x B7);refine pP (sn_set2 (O := O5) (j := 0) (v := iv (((Orb.cx o (t - d) : Nat) : Int) : Int)) (v' := iv (((Orb.cy o (t - d) : Nat) : Int) : Int)) (xt (pw O5 0) (.agg #[iv (((Orb.cx o (t - d) : Nat) : Int) : Int), iv (((Orb.cy o (t - d) : Nat) : Int) : Int)]) (st65 Bb.1 Bb.2 Bc.1 Bc.2)) Bb Bc ?_);intro Cx ho Bb Bc hk;replace hE := ho.ext hE (T Co (Nat.le_of_eq Ck));have q9 := ho.bx O1 (Nat.ne_of_gt (Nat.lt_of_lt_of_le D7 (Nat.le_of_eq Ck)));clear q9;have q9 := ho.bx Cl (Nat.ne_of_lt (Nat.lt_of_lt_of_le D8 (T Cg (Nat.le_of_eq Ce))));clear q9;have D1 := Nat.le_of_eq ho.size.symm;clear ho hk;refine pT (iv 0) ?_;refine zn (cw_ret (qw_ret [.agg #[iv (((Orb.cx o (t - d) : Nat) : Int) : Int), iv (((Orb.cy o (t - d) : Nat) : Int) : Int)], iv 0] rfl ⟨⟨_, by kernel_rfl, res_ld (ld65 (Bb.1) (Bc.1))⟩, (by kernel_rfl), trivial⟩ ?_));exact ⟨rfl, hE⟩
end Go.Proofs.YtajdohcgjgknmaaGreatDoor

namespace Go.Proofs.YtajdohcgjgknmaaGreatDoor
open Go.RowKit
theorem pickT_c (c n : Int) (w : World) (hc : IsI c) (h0 : 0 < n) (h1 : n ≤ 100000000) : Calls Tryz.prog 7 #[.int .i64 c, .int .i64 n] w fun e w' => e = .returned (.int .i64 (pickF c n)) ∧ w = w' := by
  obtain ⟨h2, h3⟩ := hc
  by_cases h : c < 0
  · go_enter Tryz.func7, Tryz.ntmps7
    go_wp2
    go_ret
    exact ⟨ret_int (by rw [pickF_neg h, ← Int.neg_tmod, Int.tmod_eq_emod_of_nonneg (by omega)]), rfl⟩
  · have h' : 0 ≤ c := by omega
    go_enter Tryz.func7, Tryz.ntmps7
    go_wp2
    go_ret
    exact ⟨ret_int (by rw [pickF_pos h']), rfl⟩
theorem pickT_n (c : Int) (n : Nat) (w : World) (hc : IsI c) (h0 : 0 < n) (h1 : n ≤ 100000000) : Calls Tryz.prog 7 #[.int .i64 c, .int .i64 ((n : Nat) : Int)] w fun e w' => ∃ k : Nat, e = .returned (.int .i64 ((k : Nat) : Int)) ∧ k < n ∧ pickF c n = (k : Int) ∧ w = w' :=
 (pickT_c c n w hc (by omega) (by omega)).mono fun e w' ⟨he, hw⟩ => by
  have hb := pickF_bd (c := c) (n := (n : Int)) (by omega)
  obtain ⟨k, hk⟩ : ∃ k : Nat, pickF c n = (k : Int) := ⟨(pickF c n).toNat, by omega⟩
  exact ⟨k, by rw [he, hk], by omega, hk, hw⟩
theorem pick7_c (c n : Int) (w : World) (hc : IsI c) (h0 : 0 < n) (h1 : n ≤ 100000000) : Calls Tryz.prog 37 #[.int .i64 c, .int .i64 n] w fun e w' => e = .returned (.int .i64 (pickF c n)) ∧ w = w' := by
  obtain ⟨h2, h3⟩ := hc
  by_cases h : c < 0
  · go_enter Tryz.func37, Tryz.ntmps37
    go_wp2
    go_ret
    exact ⟨ret_int (by rw [pickF_neg h, ← Int.neg_tmod, Int.tmod_eq_emod_of_nonneg (by omega)]), rfl⟩
  · have h' : 0 ≤ c := by omega
    go_enter Tryz.func37, Tryz.ntmps37
    go_wp2
    go_ret
    exact ⟨ret_int (by rw [pickF_pos h']), rfl⟩
theorem pick7_n (c : Int) (n : Nat) (w : World) (hc : IsI c) (h0 : 0 < n) (h1 : n ≤ 100000000) : Calls Tryz.prog 37 #[.int .i64 c, .int .i64 ((n : Nat) : Int)] w fun e w' => ∃ k : Nat, e = .returned (.int .i64 ((k : Nat) : Int)) ∧ k < n ∧ pickF c n = (k : Int) ∧ w = w' :=
 (pick7_c c n w hc (by omega) (by omega)).mono fun e w' ⟨he, hw⟩ => by
  have hb := pickF_bd (c := c) (n := (n : Int)) (by omega)
  obtain ⟨k, hk⟩ : ∃ k : Nat, pickF c n = (k : Int) := ⟨(pickF c n).toNat, by omega⟩
  exact ⟨k, by rw [he, hk], by omega, hk, hw⟩
end Go.Proofs.YtajdohcgjgknmaaGreatDoor

namespace Go.Proofs.YtajdohcgjgknmaaGreatDoor
set_option maxRecDepth 1000000
set_option maxHeartbeats 4000000
set_option synthInstance.maxHeartbeats 0
set_option synthInstance.maxSize 9999
open Go.RowKit
def Tz69_0 : List Row := [(some 4, [1], []), (some 5, [4], [0]), (some 6, [5], [1]), (some 7, [6], [2]), (some 8, [7], [3]), (some 9, [1], []), (some 10, [9], [5]), (some 11, [10], [6, 2]), (some 12, [1], []), (some 13, [12], [8]), (some 14, [13], [9, 7]), (some 15, [1], []), (some 16, [15], [11]), (some 17, [16], [12, 10]), (some 18, [17], [13]), (some 19, [1], []), (some 20, [19], [15]), (some 21, [20], [16, 13]), (some 22, [8, 11, 14, 18, 21], [4, 7, 10, 14, 17]), (some 3, [], []), (none, [3, 22], [19, 18, 17, 0, 1, 2, 3, 4, 5, 6, 7, 8, 9, 10, 11, 12, 13, 14, 15, 16, 17, 18, 19])]
def Tz69_1 : List Row := [(some 29, [3], []), (some 30, [29], [0]), (some 31, [30], [1]), (some 32, [1], []), (some 33, [32], [3]), (some 34, [33], [4]), (some 35, [31, 34], [2, 5]), (some 36, [3], [0, 1, 2, 3, 4, 5, 6]), (none, [36, 35], [7, 6, 5, 0, 1, 2, 3, 4, 5, 6])]
theorem Made7_c (x0 x1 x2 x3 x4 x5 x6 : Int) (w : World) (i0 : IsI x0) (i1 : IsI x1) (i2 : IsI x2) (i3 : IsI x3) (i4 : IsI x4) (i5 : IsI x5) (i6 : IsI x6) : Calls Tryz.prog 5 #[.agg #[iv x0, iv x1, iv x2, iv x3, iv x4, iv x5, iv x6]] w fun e w' => ∃ o : Orb, e = .returned (.agg #[iv o.p, iv o.f, iv o.lo, iv o.hi, iv o.nd, iv o.tn, iv o.sl]) ∧ Orb.ok o = true ∧ o.sl ≤ 3 ∧ Ext w w' := by
 refine calls_cw 38 [(0, .agg #[iv x0, iv x1, iv x2, iv x3, iv x4, iv x5, iv x6])] Tryz.func5 rfl Tryz.ntmps5 (by kernel_rfl) (by kernel_rfl) (fun L => ?_);have hE := Ext.refl w;refine zc (zp (pS (sw 22 #[iv x0, iv x1, iv x2, iv x3, iv x4, iv x5, iv x6] ?_)));intro O1 X2 Ie Ib hb hbx;have ⟨Be, Ej, Bf, E1, Bg, Bh, Bi⟩ := bq7 hbx;replace hE := hE.trans hb;have F3 := hb.size;have Ij := Be.lt;refine pS (sw 26 #[iv 0, iv 0, iv 0, iv 0, iv 0, iv 0, iv 0] ?_);intro O5 X6 Fr Ic hb hbx;have ⟨Fe, Fj, Fk, Fl, Fm, Fn, Fo⟩ := bq7 hbx;refine mv7 hb hE Be Ej Bf E1 Bg Bh fun hE Be Ej Bf E1 Bg Bh=>?_;replace Bi := Bi.x hb;have Ff := hb.size;have Fi := Fe.lt;refine pl_nil (qw_then ?_);refine cw_seq ?_;have B7 := Ext.refl X6;refine cw_join (fun ws' Y => ∃ Bb Ba : Nat, ∃ Br C9 : Nat, ∃ Dh Dt : Nat, ws' = [(1, pw O1 0), (2, pw O5 0), (3, pw Dt 0)] ∧ Ext w Y ∧ Ext X6 Y ∧ Bb < 90 ∧ Ba < 10000 ∧ Br < 48000 ∧ C9 < 1601 ∧ Dh < 4 ∧ BoxAt Y Dt 0 (iv (((2 * (10 + Bb) : Nat) : Int) : Int)) ∧ BoxAt Y Dt 1 (iv 0) ∧ BoxAt Y Dt 2 (iv Ba) ∧ BoxAt Y Dt 3 (iv 0) ∧ BoxAt Y Dt 4 (iv Br) ∧ BoxAt Y Dt 5 (iv ((((C9 : Nat) : Int)) - 800 : Int)) ∧ BoxAt Y Dt 6 (iv Dh) ∧ X6.heap.size ≤ Y.heap.size ∧ X6.heap.size ≤ Dt) (fun hJ => ?_) ?_
 ·
  refine dE Tz69_0 (fun w' => w'.cell? ⟨O1, 0, none⟩ = some (iv x0) ∧ w'.cell? ⟨O1, 2, none⟩ = some (iv x2) ∧ w'.cell? ⟨O1, 4, none⟩ = some (iv x4) ∧ w'.cell? ⟨O1, 5, none⟩ = some (iv x5) ∧ w'.cell? ⟨O1, 6, none⟩ = some (iv x6)) (⟨Be.1, Bf.1, Bg.1, Bh.1, Bi.1⟩) (fun ops Q Ip hb hL hR hK => ?_);refine mv2 hb hE B7 fun hE B7=>?_;have Bk := hb.size;have C8 := A5 (Be.c B7) (Bf.c B7) (Bg.c B7) (Bh.c B7) (Bi.c B7);refine wV 0 (pw O1 0) hR C8 ?_;refine wM 1 (iv x0) hR (fun w hS => ld3 (hS.1)) C8 ?_;refine wV 5 (pw O1 2) hR C8 ?_;refine wM 6 (iv x2) hR (fun w hS => ld3 (hS.2.1)) C8 ?_;refine wV 8 (pw O1 4) hR C8 ?_;refine wM 9 (iv x4) hR (fun w hS => ld3 (hS.2.2.1)) C8 ?_;refine wV 11 (pw O1 5) hR C8 ?_;refine wM 12 (iv x5) hR (fun w hS => ld3 (hS.2.2.2.1)) C8 ?_;refine wV 15 (pw O1 6) hR C8 ?_;refine wM 16 (iv x6) hR (fun w hS => ld3 (hS.2.2.2.2)) C8 ?_;refine zw 2 19 hR ?_ ?_
  ·
   refine sc 37 #[iv x0, iv 90] ((pick7_n _ (90) _ i0 (by omega) (by omega)).mono ?_);rintro e w' ⟨Bb, rfl, E8, -, rfl⟩;refine ⟨_, rfl, C8, ?_⟩;refine wL 3 (iv ((10 + Bb : Nat) : Int)) hR (fun w _ => ev_wrap (by kernel_rfl) (by omega) (by omega)) C8 ?_;refine wL 4 (iv (((2 * (10 + Bb) : Nat) : Int) : Int)) hR (fun w _ => ev_wrap (by kernel_rfl) (by omega) (by omega)) C8 ?_;refine zw 7 19 hR ?_ ?_
   ·
    refine sc 37 #[iv x2, iv 10000] ((pick7_n _ (10000) _ i2 (by omega) (by omega)).mono ?_);rintro e w' ⟨Ba, rfl, Eg, -, rfl⟩;refine ⟨_, rfl, C8, ?_⟩;refine zw 10 19 hR ?_ ?_
    ·
     refine sc 37 #[iv x4, iv 48000] ((pick7_n _ (48000) _ i4 (by omega) (by omega)).mono ?_);rintro e w' ⟨Br, rfl, Ek, -, rfl⟩;refine ⟨_, rfl, C8, ?_⟩;refine zw 13 19 hR ?_ ?_
     ·
      refine sc 37 #[iv x5, iv 1601] ((pick7_n _ (1601) _ i5 (by omega) (by omega)).mono ?_);rintro e w' ⟨C9, rfl, Ew, -, rfl⟩;refine ⟨_, rfl, C8, ?_⟩;refine wL 14 (iv ((((C9 : Nat) : Int)) - 800 : Int)) hR (fun w _ => ev_wrap (by kernel_rfl) (by omega) (by omega)) C8 ?_;refine zw 17 19 hR ?_ ?_
      ·
       refine sc 37 #[iv x6, iv 4] ((pick7_n _ (4) _ i6 (by omega) (by omega)).mono ?_);rintro e w' ⟨Dh, rfl, Fg, -, rfl⟩;refine ⟨_, rfl, C8, ?_⟩;refine wV 18 (.agg #[iv (((2 * (10 + Bb) : Nat) : Int) : Int), iv 0, iv Ba, iv 0, iv Br, iv ((((C9 : Nat) : Int)) - 800 : Int), iv Dh]) hR C8 ?_;refine wN 19 26 #[iv 0, iv 0, iv 0, iv 0, iv 0, iv 0, iv 0] hR ?_;intro Dt Hg Ep H7 hb hbx;have ⟨Bm, Ca, Cb, Cc, Cd, Ce, Cf⟩ := bq7 hbx;refine mv2 hb hE B7 fun hE B7=>?_;have Gn := hb.size;have Ig := Bm.lt;have Gg := A5 (Be.c B7) (Bf.c B7) (Bg.c B7) (Bh.c B7) (Bi.c B7);refine ⟨Gg, ?_⟩;refine wS 20 hR (sn_setK7 (O := Dt) (j := 0) (v0 := iv (((2 * (10 + Bb) : Nat) : Int) : Int)) (v1 := iv 0) (v2 := iv Ba) (v3 := iv 0) (v4 := iv Br) (v5 := iv ((((C9 : Nat) : Int)) - 800 : Int)) (v6 := iv Dh) (ex_store (p := pw Dt 0) (v := .agg #[iv (((2 * (10 + Bb) : Nat) : Int) : Int), iv 0, iv Ba, iv 0, iv Br, iv ((((C9 : Nat) : Int)) - 800 : Int), iv Dh]) rfl (by kernel_rfl) (by kernel_rfl) (st26 Bm.1 Bm.2 Ca.1 Ca.2 Cb.1 Cb.2 Cc.1 Cc.2 Cd.1 Cd.2 Ce.1 Ce.2 Cf.1 Cf.2)) Bm Ca Cb Cc Cd Ce Cf ?_);intro Hh ho Bm Ca Cb Cc Cd Ce Cf hk;replace hE := ho.ext hE (T (T F3 (T Ff Bk)) (Nat.le_of_eq Ep));replace B7 := ho.ext B7 (T Bk (Nat.le_of_eq Ep));have Gp := Nat.le_of_eq ho.size.symm;clear ho hk;have Gh := A5 (Be.c B7) (Bf.c B7) (Bg.c B7) (Bh.c B7) (Bi.c B7);refine ⟨Gh, ?_⟩;refine we hL hR hK ?_;exact zl hJ [1, 2, 3] ⟨Bb, Ba, Br, C9, Dh, Dt, rfl, hE, B7, E8, Eg, Ek, Ew, Fg, Bm, Ca, Cb, Cc, Cd, Ce, Cf, (T Bk (T Gn Gp)), (T Bk (Nat.le_of_eq Ep))⟩
      ·
       refine sw 26 #[iv 0, iv 0, iv 0, iv 0, iv 0, iv 0, iv 0] ?_;intro G8 Hj Er H8 hb hbx;have ⟨Ch, Cm, Cn, Co, Cp, Cq, Cr⟩ := bq7 hbx;refine mv2 hb hE B7 fun hE B7=>?_;have Gq := hb.size;have Ih := Ch.lt;have Fh := A5 (Be.c B7) (Bf.c B7) (Bg.c B7) (Bh.c B7) (Bi.c B7);refine ⟨Fh, ?_⟩;refine wC 17 37 #[iv x6, iv 4] hR ((pick7_n _ (4) _ i6 (by omega) (by omega)).mono ?_);rintro e w' ⟨F4, rfl, Fs, -, rfl⟩;refine ⟨_, rfl, Fh, ?_⟩;refine wV 18 (.agg #[iv (((2 * (10 + Bb) : Nat) : Int) : Int), iv 0, iv Ba, iv 0, iv Br, iv ((((C9 : Nat) : Int)) - 800 : Int), iv F4]) hR Fh ?_;refine wS 20 hR (sn_setK7 (O := G8) (j := 0) (v0 := iv (((2 * (10 + Bb) : Nat) : Int) : Int)) (v1 := iv 0) (v2 := iv Ba) (v3 := iv 0) (v4 := iv Br) (v5 := iv ((((C9 : Nat) : Int)) - 800 : Int)) (v6 := iv F4) (ex_store (p := pw G8 0) (v := .agg #[iv (((2 * (10 + Bb) : Nat) : Int) : Int), iv 0, iv Ba, iv 0, iv Br, iv ((((C9 : Nat) : Int)) - 800 : Int), iv F4]) rfl (by kernel_rfl) (by kernel_rfl) (st26 Ch.1 Ch.2 Cm.1 Cm.2 Cn.1 Cn.2 Co.1 Co.2 Cp.1 Cp.2 Cq.1 Cq.2 Cr.1 Cr.2)) Ch Cm Cn Co Cp Cq Cr ?_);intro Hk ho Ch Cm Cn Co Cp Cq Cr hk;replace hE := ho.ext hE (T (T F3 (T Ff Bk)) (Nat.le_of_eq Er));replace B7 := ho.ext B7 (T Bk (Nat.le_of_eq Er));have Gr := Nat.le_of_eq ho.size.symm;clear ho hk;have Gi := A5 (Be.c B7) (Bf.c B7) (Bg.c B7) (Bh.c B7) (Bi.c B7);refine ⟨Gi, ?_⟩;refine we hL hR hK ?_;exact zl hJ [1, 2, 3] ⟨Bb, Ba, Br, C9, F4, G8, rfl, hE, B7, E8, Eg, Ek, Ew, Fs, Ch, Cm, Cn, Co, Cp, Cq, Cr, (T Bk (T Gq Gr)), (T Bk (Nat.le_of_eq Er))⟩
     ·
      refine sw 26 #[iv 0, iv 0, iv 0, iv 0, iv 0, iv 0, iv 0] ?_;intro G9 Hm Es H9 hb hbx;have ⟨Ci, Cs, Ct, Cu, Cv, Cw, Cx⟩ := bq7 hbx;refine mv2 hb hE B7 fun hE B7=>?_;have Gs := hb.size;have Ii := Ci.lt;have En := A5 (Be.c B7) (Bf.c B7) (Bg.c B7) (Bh.c B7) (Bi.c B7);refine ⟨En, ?_⟩;refine wC 13 37 #[iv x5, iv 1601] hR ((pick7_n _ (1601) _ i5 (by omega) (by omega)).mono ?_);rintro e w' ⟨Ey, rfl, Ft, -, rfl⟩;refine ⟨_, rfl, En, ?_⟩;refine wL 14 (iv ((((Ey : Nat) : Int)) - 800 : Int)) hR (fun w _ => ev_wrap (by kernel_rfl) (by omega) (by omega)) En ?_;refine wC 17 37 #[iv x6, iv 4] hR ((pick7_n _ (4) _ i6 (by omega) (by omega)).mono ?_);rintro e w' ⟨F5, rfl, Fu, -, rfl⟩;refine ⟨_, rfl, En, ?_⟩;refine wV 18 (.agg #[iv (((2 * (10 + Bb) : Nat) : Int) : Int), iv 0, iv Ba, iv 0, iv Br, iv ((((Ey : Nat) : Int)) - 800 : Int), iv F5]) hR En ?_;refine wS 20 hR (sn_setK7 (O := G9) (j := 0) (v0 := iv (((2 * (10 + Bb) : Nat) : Int) : Int)) (v1 := iv 0) (v2 := iv Ba) (v3 := iv 0) (v4 := iv Br) (v5 := iv ((((Ey : Nat) : Int)) - 800 : Int)) (v6 := iv F5) (ex_store (p := pw G9 0) (v := .agg #[iv (((2 * (10 + Bb) : Nat) : Int) : Int), iv 0, iv Ba, iv 0, iv Br, iv ((((Ey : Nat) : Int)) - 800 : Int), iv F5]) rfl (by kernel_rfl) (by kernel_rfl) (st26 Ci.1 Ci.2 Cs.1 Cs.2 Ct.1 Ct.2 Cu.1 Cu.2 Cv.1 Cv.2 Cw.1 Cw.2 Cx.1 Cx.2)) Ci Cs Ct Cu Cv Cw Cx ?_);intro Ho ho Ci Cs Ct Cu Cv Cw Cx hk;replace hE := ho.ext hE (T (T F3 (T Ff Bk)) (Nat.le_of_eq Es));replace B7 := ho.ext B7 (T Bk (Nat.le_of_eq Es));have Gt := Nat.le_of_eq ho.size.symm;clear ho hk;have Gj := A5 (Be.c B7) (Bf.c B7) (Bg.c B7) (Bh.c B7) (Bi.c B7);refine ⟨Gj, ?_⟩;refine we hL hR hK ?_;exact zl hJ [1, 2, 3] ⟨Bb, Ba, Br, Ey, F5, G9, rfl, hE, B7, E8, Eg, Ek, Ft, Fu, Ci, Cs, Ct, Cu, Cv, Cw, Cx, (T Bk (T Gs Gt)), (T Bk (Nat.le_of_eq Es))⟩
    ·
     refine sw 26 #[iv 0, iv 0, iv 0, iv 0, iv 0, iv 0, iv 0] ?_;intro Ga Ht Et Ha hb hbx;have ⟨Cj, Cy, Cz, D0, D1, D2, D3⟩ := bq7 hbx;refine mv2 hb hE B7 fun hE B7=>?_;have Gu := hb.size;have Ik := Cj.lt;have El := A5 (Be.c B7) (Bf.c B7) (Bg.c B7) (Bh.c B7) (Bi.c B7);refine ⟨El, ?_⟩;refine wC 10 37 #[iv x4, iv 48000] hR ((pick7_n _ (48000) _ i4 (by omega) (by omega)).mono ?_);rintro e w' ⟨F6, rfl, Fv, -, rfl⟩;refine ⟨_, rfl, El, ?_⟩;refine wC 13 37 #[iv x5, iv 1601] hR ((pick7_n _ (1601) _ i5 (by omega) (by omega)).mono ?_);rintro e w' ⟨Ez, rfl, Fw, -, rfl⟩;refine ⟨_, rfl, El, ?_⟩;refine wL 14 (iv ((((Ez : Nat) : Int)) - 800 : Int)) hR (fun w _ => ev_wrap (by kernel_rfl) (by omega) (by omega)) El ?_;refine wC 17 37 #[iv x6, iv 4] hR ((pick7_n _ (4) _ i6 (by omega) (by omega)).mono ?_);rintro e w' ⟨F7, rfl, Fx, -, rfl⟩;refine ⟨_, rfl, El, ?_⟩;refine wV 18 (.agg #[iv (((2 * (10 + Bb) : Nat) : Int) : Int), iv 0, iv Ba, iv 0, iv F6, iv ((((Ez : Nat) : Int)) - 800 : Int), iv F7]) hR El ?_;refine wS 20 hR (sn_setK7 (O := Ga) (j := 0) (v0 := iv (((2 * (10 + Bb) : Nat) : Int) : Int)) (v1 := iv 0) (v2 := iv Ba) (v3 := iv 0) (v4 := iv F6) (v5 := iv ((((Ez : Nat) : Int)) - 800 : Int)) (v6 := iv F7) (ex_store (p := pw Ga 0) (v := .agg #[iv (((2 * (10 + Bb) : Nat) : Int) : Int), iv 0, iv Ba, iv 0, iv F6, iv ((((Ez : Nat) : Int)) - 800 : Int), iv F7]) rfl (by kernel_rfl) (by kernel_rfl) (st26 Cj.1 Cj.2 Cy.1 Cy.2 Cz.1 Cz.2 D0.1 D0.2 D1.1 D1.2 D2.1 D2.2 D3.1 D3.2)) Cj Cy Cz D0 D1 D2 D3 ?_);intro Hu ho Cj Cy Cz D0 D1 D2 D3 hk;replace hE := ho.ext hE (T (T F3 (T Ff Bk)) (Nat.le_of_eq Et));replace B7 := ho.ext B7 (T Bk (Nat.le_of_eq Et));have Gv := Nat.le_of_eq ho.size.symm;clear ho hk;have Gk := A5 (Be.c B7) (Bf.c B7) (Bg.c B7) (Bh.c B7) (Bi.c B7);refine ⟨Gk, ?_⟩;refine we hL hR hK ?_;exact zl hJ [1, 2, 3] ⟨Bb, Ba, F6, Ez, F7, Ga, rfl, hE, B7, E8, Eg, Fv, Fw, Fx, Cj, Cy, Cz, D0, D1, D2, D3, (T Bk (T Gu Gv)), (T Bk (Nat.le_of_eq Et))⟩
   ·
    refine sw 26 #[iv 0, iv 0, iv 0, iv 0, iv 0, iv 0, iv 0] ?_;intro Gb Hw Eu Hb hb hbx;have ⟨Ck, D4, D5, D6, D7, D8, D9⟩ := bq7 hbx;refine mv2 hb hE B7 fun hE B7=>?_;have Gw := hb.size;have Il := Ck.lt;have Eh := A5 (Be.c B7) (Bf.c B7) (Bg.c B7) (Bh.c B7) (Bi.c B7);refine ⟨Eh, ?_⟩;refine wC 7 37 #[iv x2, iv 10000] hR ((pick7_n _ (10000) _ i2 (by omega) (by omega)).mono ?_);rintro e w' ⟨F8, rfl, Fy, -, rfl⟩;refine ⟨_, rfl, Eh, ?_⟩;refine wC 10 37 #[iv x4, iv 48000] hR ((pick7_n _ (48000) _ i4 (by omega) (by omega)).mono ?_);rintro e w' ⟨F9, rfl, Fz, -, rfl⟩;refine ⟨_, rfl, Eh, ?_⟩;refine wC 13 37 #[iv x5, iv 1601] hR ((pick7_n _ (1601) _ i5 (by omega) (by omega)).mono ?_);rintro e w' ⟨F0, rfl, G0, -, rfl⟩;refine ⟨_, rfl, Eh, ?_⟩;refine wL 14 (iv ((((F0 : Nat) : Int)) - 800 : Int)) hR (fun w _ => ev_wrap (by kernel_rfl) (by omega) (by omega)) Eh ?_;refine wC 17 37 #[iv x6, iv 4] hR ((pick7_n _ (4) _ i6 (by omega) (by omega)).mono ?_);rintro e w' ⟨Fa, rfl, G2, -, rfl⟩;refine ⟨_, rfl, Eh, ?_⟩;refine wV 18 (.agg #[iv (((2 * (10 + Bb) : Nat) : Int) : Int), iv 0, iv F8, iv 0, iv F9, iv ((((F0 : Nat) : Int)) - 800 : Int), iv Fa]) hR Eh ?_;refine wS 20 hR (sn_setK7 (O := Gb) (j := 0) (v0 := iv (((2 * (10 + Bb) : Nat) : Int) : Int)) (v1 := iv 0) (v2 := iv F8) (v3 := iv 0) (v4 := iv F9) (v5 := iv ((((F0 : Nat) : Int)) - 800 : Int)) (v6 := iv Fa) (ex_store (p := pw Gb 0) (v := .agg #[iv (((2 * (10 + Bb) : Nat) : Int) : Int), iv 0, iv F8, iv 0, iv F9, iv ((((F0 : Nat) : Int)) - 800 : Int), iv Fa]) rfl (by kernel_rfl) (by kernel_rfl) (st26 Ck.1 Ck.2 D4.1 D4.2 D5.1 D5.2 D6.1 D6.2 D7.1 D7.2 D8.1 D8.2 D9.1 D9.2)) Ck D4 D5 D6 D7 D8 D9 ?_);intro Hz ho Ck D4 D5 D6 D7 D8 D9 hk;replace hE := ho.ext hE (T (T F3 (T Ff Bk)) (Nat.le_of_eq Eu));replace B7 := ho.ext B7 (T Bk (Nat.le_of_eq Eu));have Gx := Nat.le_of_eq ho.size.symm;clear ho hk;have Gl := A5 (Be.c B7) (Bf.c B7) (Bg.c B7) (Bh.c B7) (Bi.c B7);refine ⟨Gl, ?_⟩;refine we hL hR hK ?_;exact zl hJ [1, 2, 3] ⟨Bb, F8, F9, F0, Fa, Gb, rfl, hE, B7, E8, Fy, Fz, G0, G2, Ck, D4, D5, D6, D7, D8, D9, (T Bk (T Gw Gx)), (T Bk (Nat.le_of_eq Eu))⟩
  ·
   refine sw 26 #[iv 0, iv 0, iv 0, iv 0, iv 0, iv 0, iv 0] ?_;intro Gc I5 Ev He hb hbx;have ⟨Cl, Da, Db, Dc, Dd, De, Df⟩ := bq7 hbx;refine mv2 hb hE B7 fun hE B7=>?_;have Gy := hb.size;have Im := Cl.lt;have E0 := A5 (Be.c B7) (Bf.c B7) (Bg.c B7) (Bh.c B7) (Bi.c B7);refine ⟨E0, ?_⟩;refine wC 2 37 #[iv x0, iv 90] hR ((pick7_n _ (90) _ i0 (by omega) (by omega)).mono ?_);rintro e w' ⟨Em, rfl, G3, -, rfl⟩;refine ⟨_, rfl, E0, ?_⟩;refine wL 3 (iv ((10 + Em : Nat) : Int)) hR (fun w _ => ev_wrap (by kernel_rfl) (by omega) (by omega)) E0 ?_;refine wL 4 (iv (((2 * (10 + Em) : Nat) : Int) : Int)) hR (fun w _ => ev_wrap (by kernel_rfl) (by omega) (by omega)) E0 ?_;refine wC 7 37 #[iv x2, iv 10000] hR ((pick7_n _ (10000) _ i2 (by omega) (by omega)).mono ?_);rintro e w' ⟨Fb, rfl, G4, -, rfl⟩;refine ⟨_, rfl, E0, ?_⟩;refine wC 10 37 #[iv x4, iv 48000] hR ((pick7_n _ (48000) _ i4 (by omega) (by omega)).mono ?_);rintro e w' ⟨Fc, rfl, G5, -, rfl⟩;refine ⟨_, rfl, E0, ?_⟩;refine wC 13 37 #[iv x5, iv 1601] hR ((pick7_n _ (1601) _ i5 (by omega) (by omega)).mono ?_);rintro e w' ⟨F1, rfl, G6, -, rfl⟩;refine ⟨_, rfl, E0, ?_⟩;refine wL 14 (iv ((((F1 : Nat) : Int)) - 800 : Int)) hR (fun w _ => ev_wrap (by kernel_rfl) (by omega) (by omega)) E0 ?_;refine wC 17 37 #[iv x6, iv 4] hR ((pick7_n _ (4) _ i6 (by omega) (by omega)).mono ?_);rintro e w' ⟨Fd, rfl, G7, -, rfl⟩;refine ⟨_, rfl, E0, ?_⟩;refine wV 18 (.agg #[iv (((2 * (10 + Em) : Nat) : Int) : Int), iv 0, iv Fb, iv 0, iv Fc, iv ((((F1 : Nat) : Int)) - 800 : Int), iv Fd]) hR E0 ?_;refine wS 20 hR (sn_setK7 (O := Gc) (j := 0) (v0 := iv (((2 * (10 + Em) : Nat) : Int) : Int)) (v1 := iv 0) (v2 := iv Fb) (v3 := iv 0) (v4 := iv Fc) (v5 := iv ((((F1 : Nat) : Int)) - 800 : Int)) (v6 := iv Fd) (ex_store (p := pw Gc 0) (v := .agg #[iv (((2 * (10 + Em) : Nat) : Int) : Int), iv 0, iv Fb, iv 0, iv Fc, iv ((((F1 : Nat) : Int)) - 800 : Int), iv Fd]) rfl (by kernel_rfl) (by kernel_rfl) (st26 Cl.1 Cl.2 Da.1 Da.2 Db.1 Db.2 Dc.1 Dc.2 Dd.1 Dd.2 De.1 De.2 Df.1 Df.2)) Cl Da Db Dc Dd De Df ?_);intro I6 ho Cl Da Db Dc Dd De Df hk;replace hE := ho.ext hE (T (T F3 (T Ff Bk)) (Nat.le_of_eq Ev));replace B7 := ho.ext B7 (T Bk (Nat.le_of_eq Ev));have Gz := Nat.le_of_eq ho.size.symm;clear ho hk;have Gm := A5 (Be.c B7) (Bf.c B7) (Bg.c B7) (Bh.c B7) (Bi.c B7);refine ⟨Gm, ?_⟩;refine we hL hR hK ?_;exact zl hJ [1, 2, 3] ⟨Em, Fb, Fc, F1, Fd, Gc, rfl, hE, B7, G3, G4, G5, G6, G7, Cl, Da, Db, Dc, Dd, De, Df, (T Bk (T Gy Gz)), (T Bk (Nat.le_of_eq Ev))⟩
 ·
  clear hE B7;rintro L ws Gf ⟨Bb, Ba, Br, C9, Dh, Dt, rfl, hE, B7, E8, Eg, Ek, Ew, Fg, Bm, Ca, Cb, Cc, Cd, Ce, Cf, I8, Dz⟩;have Io := Bm.lt;refine qw_then ?_;refine cw_seq ?_;have Fq := Ext.refl Gf;refine zp (pT (pw O1 1) ?_);refine pU (iv x1) (xl (ld3 (Ej.c (B7.trans Fq)))) ?_;refine pT (pw Dt 0) ?_;refine pU (iv (((2 * (10 + Bb) : Nat) : Int) : Int)) (xl (ld3 (Bm.1))) ?_;refine pS (sc 37 #[iv x1, iv (((2 * (10 + Bb) : Nat) : Int) : Int)] ((pick7_n _ (2 * (10 + Bb)) _ i1 (by omega) (by omega)).mono ?_));rintro e w' ⟨Ei, rfl, Hf, -, rfl⟩;refine ⟨_, rfl, pT (pw Dt 1) ?_⟩;have Du := Bm;have Bt := Ca;have Cg := Cb;have Dv := Cc;have Dw := Cd;have Dx := Ce;have Dy := Cf;have Eo := (B7.trans Fq);refine pP (zE Dt 1 (iv Ei) (st3 Bt.1 Bt.2) Bt ?_);intro Ge ho Bt hk;replace hE := ho.ext hE (T (T F3 Ff) Dz);replace Eo := ho.ext Eo Dz;replace Du := hk 0 _ (by omega) Du;replace Cg := hk 2 _ (by omega) Cg;replace Dv := hk 3 _ (by omega) Dv;replace Dw := hk 4 _ (by omega) Dw;replace Dx := hk 5 _ (by omega) Dx;replace Dy := hk 6 _ (by omega) Dy;have I9 := Nat.le_of_eq ho.size.symm;clear ho hk;refine pl_nil (qw_then ?_);refine cw_seq ?_;have Dg := Ext.refl Ge;refine dE Tz69_1 (fun w' => w'.cell? ⟨Dt, 2, none⟩ = some (iv Ba) ∧ w'.cell? ⟨O1, 3, none⟩ = some (iv x3)) (⟨Cg.1, (E1.x (Eo.trans Dg)).1⟩) (fun ops Q I7 hb hL hR hK => ?_);refine mv2 hb hE Dg fun hE Dg=>?_;have Ia := hb.size;have Dp := A2 (Cg.c Dg) (E1.c (Eo.trans Dg));refine wV 0 (pw Dt 2) hR Dp ?_;refine wM 1 (iv Ba) hR (fun w hS => ld3 (hS.1)) Dp ?_;refine wL 2 (iv ((Ba + 4000 : Nat) : Int)) hR (fun w _ => ev_wrap (by kernel_rfl) (by omega) (by omega)) Dp ?_;refine wV 3 (pw O1 3) hR Dp ?_;refine wM 4 (iv x3) hR (fun w hS => ld3 (hS.2)) Dp ?_;refine wC 5 37 #[iv x3, iv 10000] hR ((pick7_n _ (10000) _ i3 (by omega) (by omega)).mono ?_);rintro e w' ⟨Dr, rfl, H0, -, rfl⟩;refine ⟨_, rfl, Dp, ?_⟩;refine wL 6 (iv ((((Ba + 4000) + Dr : Nat) : Int) : Int)) hR (fun w _ => ev_wrap (by kernel_rfl) (by omega) (by omega)) Dp ?_;refine wV 7 (pw Dt 3) hR Dp ?_;have C2 := (Du.x Dg);have Bp := (Cg.x Dg);have Bc := (Dv.x Dg);have C3 := (Dw.x Dg);have C4 := (Dx.x Dg);have C5 := (Dy.x Dg);have C6 := (Bt.x Dg);have Bj := (Eo.trans Dg);refine wS 8 hR (sn_set (O := Dt) (j := 3) (v := iv ((((Ba + 4000) + Dr : Nat) : Int) : Int)) (ex_store (p := pw Dt 3) (v := iv ((((Ba + 4000) + Dr : Nat) : Int) : Int)) rfl (by kernel_rfl) (by kernel_rfl) (st3 Bc.1 Bc.2)) Bc ?_);intro F2 ho Bc hk;replace hE := ho.ext hE (T (T F3 Ff) Dz);replace Bj := ho.ext Bj Dz;replace C2 := hk 0 _ (by omega) C2;replace Bp := hk 2 _ (by omega) Bp;replace C3 := hk 4 _ (by omega) C3;replace C4 := hk 5 _ (by omega) C4;replace C5 := hk 6 _ (by omega) C5;replace C6 := hk 1 _ (by omega) C6;have H4 := Nat.le_of_eq ho.size.symm;clear ho hk;have Fp := A2 (Bp.1) (E1.c Bj);refine ⟨Fp, ?_⟩;refine we hL hR hK ?_;refine zq (cK [2,3] (fun L => ?_));refine cw_seq ?_;have Bq := Ext.refl F2;refine zp (pU (.agg #[iv (((2 * (10 + Bb) : Nat) : Int) : Int), iv Ei, iv Ba, iv ((((Ba + 4000) + Dr : Nat) : Int) : Int), iv Br, iv ((((C9 : Nat) : Int)) - 800 : Int), iv Dh]) (xl (ld26 (C2.1) (C6.1) (Bp.1) (Bc.1) (C3.1) (C4.1) (C5.1))) ?_);have E9 := (Be.x (Bj.trans Bq));have Ea := (Ej.x (Bj.trans Bq));have Eb := (Bf.x (Bj.trans Bq));have Ec := (E1.x (Bj.trans Bq));have Ed := (Bg.x (Bj.trans Bq));have Ee := (Bh.x (Bj.trans Bq));have Ef := (Bi.x (Bj.trans Bq));have Bu := (Fe.x (Bj.trans Bq));have Bv := (Fj.x (Bj.trans Bq));have Bw := (Fk.x (Bj.trans Bq));have Bx := (Fl.x (Bj.trans Bq));have Bz := (Fm.x (Bj.trans Bq));have C0 := (Fn.x (Bj.trans Bq));have C1 := (Fo.x (Bj.trans Bq));have Di := C2;have Dj := Bp;have Dk := C3;have Dl := C4;have Dm := C5;have Dn := C6;have Do := Bc;refine pP (sn_setK7 (O := O5) (j := 0) (v0 := iv (((2 * (10 + Bb) : Nat) : Int) : Int)) (v1 := iv Ei) (v2 := iv Ba) (v3 := iv ((((Ba + 4000) + Dr : Nat) : Int) : Int)) (v4 := iv Br) (v5 := iv ((((C9 : Nat) : Int)) - 800 : Int)) (v6 := iv Dh) (xt (pw O5 0) (.agg #[iv (((2 * (10 + Bb) : Nat) : Int) : Int), iv Ei, iv Ba, iv ((((Ba + 4000) + Dr : Nat) : Int) : Int), iv Br, iv ((((C9 : Nat) : Int)) - 800 : Int), iv Dh]) (st26 Bu.1 Bu.2 Bv.1 Bv.2 Bw.1 Bw.2 Bx.1 Bx.2 Bz.1 Bz.2 C0.1 C0.2 C1.1 C1.2)) Bu Bv Bw Bx Bz C0 C1 ?_);intro Gd ho Bu Bv Bw Bx Bz C0 C1 hk;replace hE := ho.ext hE (T F3 (Nat.le_of_eq Fr));have q9 := ho.bx O1 (Nat.ne_of_gt (Nat.lt_of_lt_of_le Ij (Nat.le_of_eq Fr)));clear q9;have H6 := Nat.le_of_eq ho.size.symm;clear ho hk;refine zn (cw_ret (qw_ret [.agg #[iv (((2 * (10 + Bb) : Nat) : Int) : Int), iv Ei, iv Ba, iv ((((Ba + 4000) + Dr : Nat) : Int) : Int), iv Br, iv ((((C9 : Nat) : Int)) - 800 : Int), iv Dh]] rfl ⟨⟨_, by kernel_rfl, res_ld (ld26 (Bu.1) (Bv.1) (Bw.1) (Bx.1) (Bz.1) (C0.1) (C1.1))⟩, trivial⟩ ?_));refine ⟨⟨((2 * (10 + Bb) : Nat) : Int), ((Ei : Nat) : Int), ((Ba : Nat) : Int), (((Ba + 4000) + Dr : Nat) : Int), ((Br : Nat) : Int), (((C9 : Nat) : Int)) - 800, ((Dh : Nat) : Int)⟩, rfl, Orb.ok_t.2 ⟨⟨?_, ?_, ?_⟩, ⟨?_, ?_⟩, ⟨?_, ?_⟩, ⟨?_, ?_⟩, ?_, ⟨?_, ?_⟩, ⟨?_, ?_⟩, ?_, ?_⟩, ?_, hE⟩ <;> simp only [] <;> first | omega | (rw [Int.tmod_eq_emod_of_nonneg (by omega)]; omega)
end Go.Proofs.YtajdohcgjgknmaaGreatDoor

namespace Go.Proofs.YtajdohcgjgknmaaGreatDoor
namespace Globe
theorem ext24 {a b : List Int} (h1 : a.length = 24) (h2 : b.length = 24) (h : ∀ y, y < 24 → nth a y = nth b y) : a = b :=
 List.ext_getElem (by omega) fun y k1 k2 => by
  have := h y (by omega)
  rwa [nth_lt k1, nth_lt k2] at this
theorem rowsF_id {L : List Int} (h : validL L = true) : rowsF (fun y => rowN L y) = L :=
 ext24 (rowsF_len _) (len_of_valid h) fun y hy => by rw [nth_rowsF _ hy, ← rowN_cast h]
def mixL (f : Nat → Nat → Nat) (L M : List Int) (i : Nat) : List Int := rowsF fun y => if y < i then f (rowN L y) (rowN M y) else rowN L y
theorem mix_0 {f : Nat → Nat → Nat} {L M : List Int} (h : validL L = true) : mixL f L M 0 = L := by
 unfold mixL
 simp only [Nat.not_lt_zero, if_false]
 exact rowsF_id h
theorem mix_len (f : Nat → Nat → Nat) (L M : List Int) (i : Nat) : (mixL f L M i).length = 24 := rowsF_len _
theorem mix_nth (f : Nat → Nat → Nat) (L M : List Int) (i : Nat) {y : Nat} (hy : y < 24) : nth (mixL f L M i) y = (((if y < i then f (rowN L y) (rowN M y) else rowN L y) : Nat) : Int) := nth_rowsF _ hy
theorem mix_24 (f : Nat → Nat → Nat) (L M : List Int) : mixL f L M 24 = rowsF fun y => f (rowN L y) (rowN M y) :=
 ext24 (mix_len _ _ _ _) (rowsF_len _) fun y hy => by rw [mix_nth _ _ _ _ hy, nth_rowsF _ hy, if_pos hy]
theorem mix_row {f : Nat → Nat → Nat} {L M : List Int} {i : Nat} (hi : i < 24) : rowN (mixL f L M i) i = rowN L i := by
 show (nth (mixL f L M i) i).toNat = rowN L i
 rw [mix_nth _ _ _ _ hi, if_neg (Nat.lt_irrefl i), Int.toNat_natCast]
theorem mix_succ {f : Nat → Nat → Nat} {L M : List Int} {i : Nat} (hi : i < 24) : (mixL f L M i).set i ((f (rowN (mixL f L M i) i) (rowN M i) : Nat) : Int) = mixL f L M (i + 1) := by
  rw [mix_row hi]
  refine ext24 (by rw [List.length_set, mix_len]) (mix_len _ _ _ _) fun y hy => ?_
  rw [nth_set _ (by rw [mix_len]; exact hi), mix_nth _ _ _ _ hy]
  rw [mix_nth _ _ _ _ hy]
  by_cases e : i = y
  · subst e; rw [if_pos rfl, if_pos (by omega)]
  · rw [if_neg e]
    by_cases h : y < i
    · rw [if_pos h, if_pos (by omega)]
    · rw [if_neg h, if_neg (by omega)]
theorem mix_valid {f : Nat → Nat → Nat} (hf : ∀ p q, p < 281474976710656 → q < 281474976710656 → f p q < 281474976710656) {L M : List Int} (hL : validL L = true) (hM : validL M = true) (i : Nat) : validL (mixL f L M i) = true :=
 rowsF_valid fun y _ => by
  by_cases h : y < i
  · rw [if_pos h]; exact hf _ _ (rowN_lt hL y) (rowN_lt hM y)
  · rw [if_neg h]; exact rowN_lt hL y
def and8 (p q : Nat) : Nat := p &&& q
def or8 (p q : Nat) : Nat := p ||| q
theorem and8_lt (p q : Nat) (h : p < 281474976710656) (_ : q < 281474976710656) : and8 p q < 281474976710656 := Nat.lt_of_le_of_lt Nat.and_le_left h
theorem or8_lt (p q : Nat) (h : p < 281474976710656) (k : q < 281474976710656) : or8 p q < 281474976710656 := Nat.or_lt_two_pow (n := 48) h k
end Globe
namespace Swath
open Globe
def spB (s : Int × Int) (most : Int) : Bool := decide (0 ≤ s.1) && decide (s.1 < s.2) && decide (s.2 ≤ 1000001) && decide (s.2 - s.1 ≤ most)
theorem spB_t {s : Int × Int} {most : Int} : spB s most = true ↔ 0 ≤ s.1 ∧ s.1 < s.2 ∧ s.2 ≤ 1000001 ∧ s.2 - s.1 ≤ most := by
 unfold spB; simp [and_assoc]
def shB (o : Orb) (s : Int × Int) (l : Int) : Bool := Orb.ok o && spB s 60 && inB l (-4) 4
theorem shB_t {o : Orb} {s : Int × Int} {l : Int} : shB o s l = true ↔ Orb.ok o = true ∧ (0 ≤ s.1 ∧ s.1 < s.2 ∧ s.2 ≤ 1000001 ∧ s.2 - s.1 ≤ 60) ∧ -4 ≤ l ∧ l ≤ 4 := by
 unfold shB; simp only [Bool.and_eq_true, spB_t, inB_t, and_assoc]
def sx (o : Orb) (l u : Int) : Nat := (((Orb.cx o u : Int) + l + 48) % 48).toNat
theorem sx_lt (o : Orb) (l u : Int) : sx o l u < 48 := by unfold sx; omega
theorem sx_z (o : Orb) (l u : Int) : ((Orb.cx o u : Int) + l + 48) % 48 = (sx o l u : Int) := by unfold sx; omega
def showL (o : Orb) (l u : Int) : Nat → List Int
 | 0 => zeroL
 | n + 1 => putL (showL o l u n) (sx o l (u + n)) (Orb.cy o (u + n))
theorem show_valid {o : Orb} (h : Orb.ok o = true) (l u : Int) : ∀ n, validL (showL o l u n) = true
 | 0 => show validL zeroL = true by decide
 | n + 1 => valid_put (show_valid h l u n) (sx_lt _ _ _)
def foldM (A : Nat → List Int) : Nat → List Int
 | 0 => zeroL
 | 1 => A 0
 | k + 2 => meetL (foldM A (k + 1)) (A (k + 1))
def foldU (A : Nat → List Int) : Nat → List Int
 | 0 => zeroL
 | 1 => A 0
 | k + 2 => unionL (foldU A (k + 1)) (A (k + 1))
theorem foldM_succ {A : Nat → List Int} {i : Nat} (h : 0 < i) : foldM A (i + 1) = meetL (foldM A i) (A i) := by
 obtain ⟨k, rfl⟩ : ∃ k, i = k + 1 := ⟨i - 1, by omega⟩
 rfl
theorem foldU_succ {A : Nat → List Int} {i : Nat} (h : 0 < i) : foldU A (i + 1) = unionL (foldU A i) (A i) := by
 obtain ⟨k, rfl⟩ : ∃ k, i = k + 1 := ⟨i - 1, by omega⟩
 rfl
theorem foldM_valid {A : Nat → List Int} (h : ∀ i, validL (A i) = true) : ∀ i, validL (foldM A i) = true
 | 0 => show validL zeroL = true by decide
 | 1 => h 0
 | k + 2 => meet_valid (foldM_valid h (k + 1))
theorem foldU_valid {A : Nat → List Int} (h : ∀ i, validL (A i) = true) : ∀ i, validL (foldU A i) = true
 | 0 => show validL zeroL = true by decide
 | 1 => h 0
 | k + 2 => union_valid (foldU_valid h (k + 1)) (h (k + 1))
def areaJ (o : Orb) (s : Int × Int) (lk : Int) (j : Nat) : List Int := showL o lk (s.1 - (-o.sl + ((j : Nat) : Int))) (s.2 - s.1).toNat
theorem areaJ_valid {o : Orb} (h : Orb.ok o = true) (s : Int × Int) (lk : Int) (j : Nat) : validL (areaJ o s lk j) = true := show_valid h _ _ _
def lates (o : Orb) : Nat := (2 * o.sl + 1).toNat
def sureL (o : Orb) (s : Int × Int) (lk : Int) : List Int := foldM (areaJ o s lk) (lates o)
def canL (o : Orb) (s : Int × Int) (lk : Int) : List Int := foldU (areaJ o s lk) (lates o)
theorem sure_valid {o : Orb} (h : Orb.ok o = true) (s : Int × Int) (lk : Int) : validL (sureL o s lk) = true := foldM_valid (areaJ_valid h s lk) _
theorem can_valid {o : Orb} (h : Orb.ok o = true) (s : Int × Int) (lk : Int) : validL (canL o s lk) = true := foldU_valid (areaJ_valid h s lk) _
end Swath
end Go.Proofs.YtajdohcgjgknmaaGreatDoor

namespace Go.Proofs.YtajdohcgjgknmaaGreatDoor
set_option maxRecDepth 1000000
set_option maxHeartbeats 4000000
set_option synthInstance.maxHeartbeats 0
set_option synthInstance.maxSize 9999
open Go.RowKit
def ShownAt (w : World) (B1 B2 B3 B4 : Nat) (o : Orb) (s : Int × Int) (l d : Int) : Prop :=
 w.cell? ⟨B1, 0, none⟩ = some (.int .i64 s.1) ∧ w.cell? ⟨B1, 1, none⟩ = some (.int .i64 s.2) ∧ w.cell? ⟨B2, 0, none⟩ = some (.int .i64 o.p) ∧ w.cell? ⟨B2, 1, none⟩ = some (.int .i64 o.f) ∧ w.cell? ⟨B2, 2, none⟩ = some (.int .i64 o.lo) ∧ w.cell? ⟨B2, 3, none⟩ = some (.int .i64 o.hi) ∧
  w.cell? ⟨B2, 4, none⟩ = some (.int .i64 o.nd) ∧ w.cell? ⟨B2, 5, none⟩ = some (.int .i64 o.tn) ∧ w.cell? ⟨B2, 6, none⟩ = some (.int .i64 o.sl) ∧ w.cell? ⟨B3, 0, none⟩ = some (.int .i64 d) ∧ w.cell? ⟨B4, 0, none⟩ = some (.int .i64 l)
theorem isSpell_c (s : Int × Int) (m : Int) (w : World) : Calls Tryz.prog 94 #[.agg #[iv s.1, iv s.2], iv m] w fun e w' => e = .returned (.bool (Swath.spB s m)) ∧ Ext w w' := by
 refine calls_cw 29 [(1, iv m), (0, .agg #[iv s.1, iv s.2])] Tryz.func94 rfl Tryz.ntmps94 (by kernel_rfl) (by kernel_rfl) (fun L => ?_);have hE := Ext.refl w;refine zc (zp (pS (sw 38 #[iv s.1, iv s.2] ?_)));intro O1 X2 Bh Bg hb hbx;have ⟨B7, Ba⟩ := bq2 hbx;replace hE := hE.trans hb;have Bi := hb.size;have Bj := B7.lt;refine pT (.bool false) ?_;refine zn (zc (zp (pT (pw O1 0) ?_)));refine pU (iv s.1) (xl (ld3 (B7.1))) ?_
 by_cases Bb : (0 : Int) ≤ (s.1 : Int)
 ·
  refine pU (.bool true) (ed ((0 : Int) ≤ (s.1 : Int)) (Bb)) ?_;refine pD (.bool true) (pw O1 0) ?_;refine pU (iv s.1) (xl (ld3 (B7.1))) ?_;refine pT (pw O1 1) ?_;refine pU (iv s.2) (xl (ld3 (Ba.1))) ?_
  by_cases Bc : (s.1 : Int) < (s.2 : Int)
  ·
   refine pU (.bool true) (ed ((s.1 : Int) < (s.2 : Int)) (Bc)) ?_;refine pD (.bool true) (.bool true) ?_;refine pT (pw O1 1) ?_;refine pU (iv s.2) (xl (ld3 (Ba.1))) ?_
   by_cases Be : (s.2 : Int) ≤ (1000001 : Int)
   ·
    refine pU (.bool true) (ed ((s.2 : Int) ≤ (1000001 : Int)) (Be)) ?_;refine pD (.bool true) (.bool true) ?_;refine pT (pw O1 1) ?_;refine pU (iv s.2) (xl (ld3 (Ba.1))) ?_;refine pT (pw O1 0) ?_;refine pU (iv s.1) (xl (ld3 (B7.1))) ?_;refine pU (iv (s.2 - s.1 : Int)) (ew (by omega) (by omega)) ?_;refine pT (iv m) ?_
    by_cases Bf : (s.2 - s.1 : Int) ≤ (m : Int)
    ·
     refine pU (.bool true) (ed ((s.2 - s.1 : Int) ≤ (m : Int)) (Bf)) ?_;refine pD (.bool true) (.bool true) ?_;refine zn (cK [4] (fun L => ?_));refine cw_ret (qw_ret [.bool true] rfl ⟨(by kernel_rfl), trivial⟩ ?_);exact ⟨rb (show Swath.spB s m = true by simp [Swath.spB, Bb, Bc, Be, Bf]).symm, hE⟩
    ·
     refine pU (.bool false) (en ((s.2 - s.1 : Int) ≤ (m : Int)) (Bf)) ?_;refine pD (.bool false) (.bool false) ?_;refine zn (cK [4] (fun L => ?_));refine cw_ret (qw_ret [.bool false] rfl ⟨(by kernel_rfl), trivial⟩ ?_);exact ⟨rb (show Swath.spB s m = false by simp [Swath.spB, Bb, Bc, Be, Bf]).symm, hE⟩
   ·
    refine pU (.bool false) (en ((s.2 : Int) ≤ (1000001 : Int)) (Be)) ?_;refine pD (.bool false) (.bool false) ?_;refine pK ?_;refine pK ?_;refine pK ?_;refine pK ?_;refine pK ?_;refine pK ?_;refine pK ?_;refine pD (.bool false) (.bool false) ?_;refine zn (cK [4] (fun L => ?_));refine cw_ret (qw_ret [.bool false] rfl ⟨(by kernel_rfl), trivial⟩ ?_);exact ⟨rb (show Swath.spB s m = false by simp [Swath.spB, Bb, Bc, Be]).symm, hE⟩
  ·
   refine pU (.bool false) (en ((s.1 : Int) < (s.2 : Int)) (Bc)) ?_;refine pD (.bool false) (.bool false) ?_;refine pK ?_;refine pK ?_;refine pK ?_;refine pD (.bool false) (.bool false) ?_;refine pK ?_;refine pK ?_;refine pK ?_;refine pK ?_;refine pK ?_;refine pK ?_;refine pK ?_;refine pD (.bool false) (.bool false) ?_;refine zn (cK [4] (fun L => ?_));refine cw_ret (qw_ret [.bool false] rfl ⟨(by kernel_rfl), trivial⟩ ?_);exact ⟨rb (show Swath.spB s m = false by simp [Swath.spB, Bb, Bc]).symm, hE⟩
 ·
  refine pU (.bool false) (en ((0 : Int) ≤ (s.1 : Int)) (Bb)) ?_;refine pT (.bool false) ?_;refine pK ?_;refine pK ?_;refine pK ?_;refine pK ?_;refine pK ?_;refine pD (.bool false) (.bool false) ?_;refine pK ?_;refine pK ?_;refine pK ?_;refine pD (.bool false) (.bool false) ?_;refine pK ?_;refine pK ?_;refine pK ?_;refine pK ?_;refine pK ?_;refine pK ?_;refine pK ?_;refine pD (.bool false) (.bool false) ?_;refine zn (cK [4] (fun L => ?_));refine cw_ret (qw_ret [.bool false] rfl ⟨(by kernel_rfl), trivial⟩ ?_);exact ⟨rb (show Swath.spB s m = false by simp [Swath.spB, Bb]).symm, hE⟩
theorem isSpell_r (s : Int × Int) (m : Int) {r : Bool} (w : World) (hr : Swath.spB s m = r) : Calls Tryz.prog 94 #[.agg #[.int .i64 s.1, .int .i64 s.2], .int .i64 m] w fun e w' => e = .returned (.bool r) ∧ Ext w w' := hr ▸ isSpell_c s m w
theorem sValid_c (o : Orb) (s : Int × Int) (l : Int) (w : World) : Calls Tryz.prog 40 #[.agg #[iv o.p, iv o.f, iv o.lo, iv o.hi, iv o.nd, iv o.tn, iv o.sl], .agg #[iv s.1, iv s.2], iv l] w fun e w' => e = .returned (.bool (Swath.shB o s l)) ∧ Ext w w' := by
 refine calls_cw 17 [(2, iv l), (1, .agg #[iv s.1, iv s.2]), (0, .agg #[iv o.p, iv o.f, iv o.lo, iv o.hi, iv o.nd, iv o.tn, iv o.sl])] Tryz.func40 rfl Tryz.ntmps40 (by kernel_rfl) (by kernel_rfl) (fun L => ?_);have hE := Ext.refl w;refine zc (zp (pS (sw 26 #[iv o.p, iv o.f, iv o.lo, iv o.hi, iv o.nd, iv o.tn, iv o.sl] ?_)));intro O1 X2 C1 Bz hb hbx;have ⟨Ba, Bf, Bg, Bh, Bi, Bj, Bk⟩ := bq7 hbx;replace hE := hE.trans hb;have C3 := hb.size;have C5 := Ba.lt;refine pS (sw 38 #[iv s.1, iv s.2] ?_);intro O5 X6 C2 C0 hb hbx;have ⟨Bm, Bp⟩ := bq2 hbx;refine mv7 hb hE Ba Bf Bg Bh Bi Bj fun hE Ba Bf Bg Bh Bi Bj=>?_;replace Bk := Bk.x hb;have C4 := hb.size;have C6 := Bm.lt;refine pT (.bool false) ?_;refine pl_nil (qw_then ?_);refine cw_seq ?_;have Bb := Ext.refl X6;refine zp (pU (.agg #[iv o.p, iv o.f, iv o.lo, iv o.hi, iv o.nd, iv o.tn, iv o.sl]) (xl (ld26 (Ba.1) (Bf.1) (Bg.1) (Bh.1) (Bi.1) (Bj.1) (Bk.1))) ?_);rcases Bool.eq_false_or_eq_true (Orb.ok o) with B7 | B7
 ·
  refine pS (sc 93 #[.agg #[iv o.p, iv o.f, iv o.lo, iv o.hi, iv o.nd, iv o.tn, iv o.sl]] ((oValid_r (r := true) _ (B7)).mono ?_));rintro e C8 ⟨rfl, hb⟩;refine mv2 hb hE Bb fun hE Bb=>?_;have Br := hb.size;refine ⟨_, rfl, pT (.bool true) ?_⟩;refine pU (.agg #[iv s.1, iv s.2]) (xl (ld38 (Bm.c Bb) (Bp.c Bb))) ?_;rcases Bool.eq_false_or_eq_true (Swath.spB s 60) with Bc | Bc
  ·
   refine pS (sc 94 #[.agg #[iv s.1, iv s.2], iv 60] ((isSpell_r (r := true) s 60 _ (Bc)).mono ?_));rintro e C9 ⟨rfl, hb⟩;replace hE := hE.trans hb;have Bt := hb.size;refine ⟨_, rfl, pD (.bool true) (.bool true) ?_⟩;refine pT (iv l) ?_;rcases Bool.eq_false_or_eq_true (Globe.inB l (-4) 4) with Be | Be
   ·
    have Bq := Globe.inB_t.1 Be;refine pS (sc 46 #[iv l, iv (-4 : Int), iv 4] ((swath_isIn_r (r := true) l (-4) 4 _ (Be)).mono ?_));rintro e Ca ⟨rfl, hb⟩;replace hE := hE.trans hb;have Bu := hb.size;refine ⟨_, rfl, pD (.bool true) (.bool true) ?_⟩;refine zn (cK [6] (fun L => ?_));refine cw_ret (qw_ret [.bool true] rfl ⟨(by kernel_rfl), trivial⟩ ?_);exact ⟨rb (show Swath.shB o s l = true by simp [Swath.shB, B7, Bc, Be]).symm, hE⟩
   ·
    refine pS (sc 46 #[iv l, iv (-4 : Int), iv 4] ((swath_isIn_r (r := false) l (-4) 4 _ (Be)).mono ?_));rintro e Cb ⟨rfl, hb⟩;replace hE := hE.trans hb;have Bv := hb.size;refine ⟨_, rfl, pD (.bool false) (.bool false) ?_⟩;refine zn (cK [6] (fun L => ?_));refine cw_ret (qw_ret [.bool false] rfl ⟨(by kernel_rfl), trivial⟩ ?_);exact ⟨rb (show Swath.shB o s l = false by simp [Swath.shB, B7, Bc, Be]).symm, hE⟩
  ·
   refine pS (sc 94 #[.agg #[iv s.1, iv s.2], iv 60] ((isSpell_r (r := false) s 60 _ (Bc)).mono ?_));rintro e Cc ⟨rfl, hb⟩;replace hE := hE.trans hb;have Bw := hb.size;refine ⟨_, rfl, pD (.bool false) (.bool false) ?_⟩;refine pK ?_;refine pK ?_;refine pD (.bool false) (.bool false) ?_;refine zn (cK [6] (fun L => ?_));refine cw_ret (qw_ret [.bool false] rfl ⟨(by kernel_rfl), trivial⟩ ?_);exact ⟨rb (show Swath.shB o s l = false by simp [Swath.shB, B7, Bc]).symm, hE⟩
 ·
  refine pS (sc 93 #[.agg #[iv o.p, iv o.f, iv o.lo, iv o.hi, iv o.nd, iv o.tn, iv o.sl]] ((oValid_r (r := false) _ (B7)).mono ?_));rintro e Cd ⟨rfl, hb⟩;replace hE := hE.trans hb;have Bx := hb.size;refine ⟨_, rfl, pT (.bool false) ?_⟩;refine pK ?_;refine pK ?_;refine pD (.bool false) (.bool false) ?_;refine pK ?_;refine pK ?_;refine pD (.bool false) (.bool false) ?_;refine zn (cK [6] (fun L => ?_));refine cw_ret (qw_ret [.bool false] rfl ⟨(by kernel_rfl), trivial⟩ ?_);exact ⟨rb (show Swath.shB o s l = false by simp [Swath.shB, B7]).symm, hE⟩
theorem sValid_r (o : Orb) (s : Int × Int) (l : Int) {r : Bool} (w : World) (hr : Swath.shB o s l = r) : Calls Tryz.prog 40 #[.agg #[.int .i64 o.p, .int .i64 o.f, .int .i64 o.lo, .int .i64 o.hi, .int .i64 o.nd, .int .i64 o.tn, .int .i64 o.sl], .agg #[.int .i64 s.1, .int .i64 s.2], .int .i64 l] w fun e w' => e = .returned (.bool r) ∧ Ext w w' := hr ▸ sValid_c o s l w
theorem delays_c (o : Orb) (w : World) : Calls Tryz.prog 97 #[.agg #[iv o.p, iv o.f, iv o.lo, iv o.hi, iv o.nd, iv o.tn, iv o.sl]] w fun e w' => ∃ B, e = .returned (.func (.func 130) #[] #[pw B 0]) ∧ w.heap.size ≤ B ∧ w'.cell? ⟨B, 6, none⟩ = some (iv o.sl) ∧ Ext w w' := by
 refine calls_cw 4 [(0, .agg #[iv o.p, iv o.f, iv o.lo, iv o.hi, iv o.nd, iv o.tn, iv o.sl])] Tryz.func97 rfl Tryz.ntmps97 (by kernel_rfl) (by kernel_rfl) (fun L => ?_);have hE := Ext.refl w;refine zc (zp (pS (sw 26 #[iv o.p, iv o.f, iv o.lo, iv o.hi, iv o.nd, iv o.tn, iv o.sl] ?_)));intro O1 X2 hzO1 hyO1 hb hbx;have ⟨bO1_0, bO1_1, bO1_2, bO1_3, bO1_4, bO1_5, bO1_6⟩ := bq7 hbx;replace hE := hE.trans hb;have hs3 := hb.size;have lt4 := bO1_0.lt;refine pT (Value.nilFunc) ?_;refine pl_nil (qw_then ?_);refine cw_seq ?_;have hX5 := Ext.refl X2;refine zp (pD (.func (.func 130) #[] #[pw O1 0]) (.func (.func 130) #[] #[pw O1 0]) ?_);refine zn (cw_ret (qw_ret [.func (.func 130) #[] #[pw O1 0]] rfl ⟨(by kernel_rfl), trivial⟩ ?_));exact ⟨O1, rfl, (Nat.le_of_eq hzO1), bO1_6.1, hE⟩
theorem shown_c (o : Orb) (s : Int × Int) (l d : Int) (w : World) : Calls Tryz.prog 96 #[.agg #[iv o.p, iv o.f, iv o.lo, iv o.hi, iv o.nd, iv o.tn, iv o.sl], .agg #[iv s.1, iv s.2], iv l, iv d] w fun e w' => ∃ B1 B2 B3 B4, e = .returned (.func (.func 128) #[] #[pw B1 0, pw B2 0, pw B3 0, pw B4 0]) ∧ (w.heap.size ≤ B1 ∧ w.heap.size ≤ B2 ∧ w.heap.size ≤ B3 ∧ w.heap.size ≤ B4) ∧ ShownAt w' B1 B2 B3 B4 o s l d ∧ Ext w w' := by
 refine calls_cw 10 [(3, iv d), (2, iv l), (1, .agg #[iv s.1, iv s.2]), (0, .agg #[iv o.p, iv o.f, iv o.lo, iv o.hi, iv o.nd, iv o.tn, iv o.sl])] Tryz.func96 rfl Tryz.ntmps96 (by kernel_rfl) (by kernel_rfl) (fun L => ?_);have hE := Ext.refl w;refine zc (zp (pS (sw 26 #[iv o.p, iv o.f, iv o.lo, iv o.hi, iv o.nd, iv o.tn, iv o.sl] ?_)));intro O1 X2 hzO1 hyO1 hb hbx;have ⟨bO1_0, bO1_1, bO1_2, bO1_3, bO1_4, bO1_5, bO1_6⟩ := bq7 hbx;replace hE := hE.trans hb;have hs3 := hb.size;have lt4 := bO1_0.lt;refine pS (sw 38 #[iv s.1, iv s.2] ?_);intro O5 X6 hzO5 hyO5 hb hbx;have ⟨bO5_0, bO5_1⟩ := bq2 hbx;refine mv7 hb hE bO1_0 bO1_1 bO1_2 bO1_3 bO1_4 bO1_5 fun hE bO1_0 bO1_1 bO1_2 bO1_3 bO1_4 bO1_5=>?_;replace bO1_6 := bO1_6.x hb;have hs7 := hb.size;have lt8 := bO5_0.lt;refine pS (sw 3 #[iv l] ?_);intro O9 X10 hzO9 hyO9 hb hbx;have bO9_0 := bq1 hbx;refine mv9 hb hE bO1_0 bO1_1 bO1_2 bO1_3 bO1_4 bO1_5 bO1_6 bO5_0 fun hE bO1_0 bO1_1 bO1_2 bO1_3 bO1_4 bO1_5 bO1_6 bO5_0=>?_;replace bO5_1 := bO5_1.x hb;have hs11 := hb.size;have lt12 := bO9_0.lt;refine pS (sw 3 #[iv d] ?_);intro O13 X14 hzO13 hyO13 hb hbx;have bO13_0 := bq1 hbx;refine mv9 hb hE bO1_0 bO1_1 bO1_2 bO1_3 bO1_4 bO1_5 bO1_6 bO5_0 fun hE bO1_0 bO1_1 bO1_2 bO1_3 bO1_4 bO1_5 bO1_6 bO5_0=>?_;refine mv2 hb bO5_1 bO9_0 fun bO5_1 bO9_0=>?_;have hs15 := hb.size;have lt16 := bO13_0.lt;refine pT (Value.nilFunc) ?_;refine pl_nil (qw_then ?_);refine cw_seq ?_;have hX17 := Ext.refl X14;refine zp (pD (.func (.func 128) #[] #[pw O5 0, pw O1 0, pw O13 0, pw O9 0]) (.func (.func 128) #[] #[pw O5 0, pw O1 0, pw O13 0, pw O9 0]) ?_);refine zn (cw_ret (qw_ret [.func (.func 128) #[] #[pw O5 0, pw O1 0, pw O13 0, pw O9 0]] rfl ⟨(by kernel_rfl), trivial⟩ ?_));exact ⟨O5, O1, O13, O9, rfl, ⟨(T hs3 (Nat.le_of_eq hzO5)), (Nat.le_of_eq hzO1), (T (T hs3 (T hs7 hs11)) (Nat.le_of_eq hzO13)), (T (T hs3 hs7) (Nat.le_of_eq hzO9))⟩, ⟨bO5_0.1, bO5_1.1, bO1_0.1, bO1_1.1, bO1_2.1, bO1_3.1, bO1_4.1, bO1_5.1, bO1_6.1, bO13_0.1, bO9_0.1⟩, hE⟩
end Go.Proofs.YtajdohcgjgknmaaGreatDoor

namespace Go.Proofs.YtajdohcgjgknmaaGreatDoor
set_option maxRecDepth 1000000
set_option maxHeartbeats 4000000
set_option synthInstance.maxHeartbeats 0
set_option synthInstance.maxSize 9999
open Go.RowKit
theorem delays_seq {o : Orb} {B : Nat} {X : Nat → Prop} {w0 : World} (hok : Orb.ok o = true) (hX : ¬ X B) (c6 : w0.cell? ⟨B, 6, none⟩ = some (iv o.sl)) :
  SeqN Tryz.prog 130 #[pw B 0] (2 * o.sl + 1).toNat (fun i => [iv (-o.sl + ((i : Nat) : Int))]) (fun _ _ => True) X w0 := by
 intro l J Jx w hW hJst hJxst hY Be n;have Bm := Orb.ok_t.1 hok;replace c6 := hW.cell c6;refine icalls 17 [(1, pw B 0), (0, .func (.yield l) #[] #[])] Tryz.func130 rfl Tryz.ntmps130 (by kernel_rfl) (by kernel_rfl) (fun L mm => ?_);have hE := Ext.refl w;refine icw_seq (icw_plain (iT (pw B 6) ?_));refine iU (iv o.sl) (xl (ld3 (c6))) ?_;refine iU (iv (-o.sl + ((0 : Nat) : Int) : Int)) (ev_int (ev_wrap (a := 0 - o.sl) (by kernel_rfl) (by omega) (by omega)) (by omega)) ?_;refine iT (iv (-o.sl + ((0 : Nat) : Int) : Int)) ?_;refine ipl_nil (iqw_then (icw_block ?_));have Bb := hJst _ _ _ Be (Ext.refl _);refine icw_loop [0, 1, 3] (fun ws' wr m => ∃ i : Nat, ws' = [(0, .func (.yield l) #[] #[]), (1, pw B 0), (3, iv (-o.sl + ((i : Nat) : Int) : Int))] ∧ m = (2 * o.sl + 1).toNat - i ∧ w.heap.size ≤ wr.heap.size ∧ wr.cell? ⟨B, 6, none⟩ = some (iv o.sl) ∧ J i wr ∧ i ≤ (2 * o.sl + 1).toNat) (ws0 := [(0, .func (.yield l) #[] #[]), (1, pw B 0), (3, iv (-o.sl + ((0 : Nat) : Int) : Int))]) (by kernel_rfl) _ ⟨0, rfl, rfl, Nat.le_refl _, c6, Bb, by omega⟩ ?_;clear c6;rintro m4 L ws w3 ⟨i, rfl, rfl, Bi, c6, Bc, hi⟩;have Bk := Ext.refl w3
 by_cases hlt : i < (2 * o.sl + 1).toNat
 ·
  refine icw_seq (icw_seq (icw_plain (iT (iv (-o.sl + ((i : Nat) : Int) : Int)) ?_)));refine iT (pw B 6) ?_;refine iU (iv o.sl) (xl (ld3 (c6))) ?_;refine iU (.bool true) (ed ((-o.sl + ((i : Nat) : Int) : Int) ≤ (o.sl : Int)) (by omega)) ?_;refine ipl_nil (iqw_then (icw_t (by kernel_rfl) ?_));refine icw_skip (iqw_then (icw_seq (icw_block ?_)));refine icw_seq (icw_plain (iT (.func (.yield l) #[] #[]) ?_));refine iT (iv (-o.sl + ((i : Nat) : Int) : Int)) ?_;refine ipl_yield rfl (by kernel_rfl) (by kernel_rfl) (by kernel_rfl) (sy_yield (args := #[iv (-o.sl + ((i : Nat) : Int) : Int)]) rfl (by kernel_rfl) (by kernel_rfl) (yield_mono (hY i _ _ (by omega) (hJst _ _ _ Bc (Ext.refl _)) trivial) ?_));rintro e w6 (⟨rfl, Ba, B7⟩ | ⟨rfl, Ba, B7⟩)
  ·
   replace c6 := B7.cell hX c6;have Bj := B7.size;have Bf := Ext.refl w6;refine ⟨_, rfl, iT (.bool false) ?_⟩;refine ipl_nil (iqw_then (icw_f (by kernel_rfl) ?_));refine icw_skip (iqw_block (iqw_then (icw_plain (iT (iv (-o.sl + ((i : Nat) : Int) : Int)) ?_))));refine iU (iv (-o.sl + ((i + 1 : Nat) : Int) : Int)) (ev_int (ev_wrap (a := -o.sl + ((i : Nat) : Int) + 1) (by kernel_rfl) (by omega) (by omega)) (by omega)) ?_;refine iT (iv (-o.sl + ((i + 1 : Nat) : Int) : Int)) ?_;refine ipl_nil (iqw_round [0, 1, 3] (ws' := [(0, .func (.yield l) #[] #[]), (1, pw B 0), (3, iv (-o.sl + ((i + 1 : Nat) : Int) : Int))]) (by kernel_rfl) _ ?_ ⟨(i + 1), rfl, rfl, (T Bi Bj), c6, (hJst _ _ _ Ba (Ext.refl _)), by omega⟩);omega
  ·
   replace c6 := B7.cell hX c6;have Bh := B7.size;have Bg := Ext.refl w6;refine ⟨_, rfl, iT (.bool true) ?_⟩;refine ipl_nil (iqw_then (icw_t (by kernel_rfl) ?_));refine icw_ret ?_;refine iqw_block_ret ?_;refine iqw_then_ret ?_;refine iqw_then_ret ?_;refine iqw_block_ret ?_;refine iqw_ret0 [] rfl trivial ?_;exact ⟨⟨_, rfl⟩, .inr ⟨i, by omega, hJxst _ _ _ Ba (Ext.refl _)⟩⟩
 ·
  have hin : i = (2 * o.sl + 1).toNat := by omega
  refine icw_seq (icw_seq (icw_plain (iT (iv (-o.sl + ((i : Nat) : Int) : Int)) ?_)));refine iT (pw B 6) ?_;refine iU (iv o.sl) (xl (ld3 (c6))) ?_;refine iU (.bool false) (en ((-o.sl + ((i : Nat) : Int) : Int) ≤ (o.sl : Int)) (by omega)) ?_;refine ipl_nil (iqw_then (icw_f (by kernel_rfl) ?_));refine icw_exit ?_;refine iqw_then_exit ?_;refine iqw_then_exit ?_;refine iqw_block_out ?_;refine iqw_end0 [] rfl trivial ?_;exact ⟨⟨_, rfl⟩, .inl (hin ▸ hJst _ _ _ Bc (Ext.refl _))⟩
theorem shown_seq {o : Orb} {s : Int × Int} {lk d : Int} {B1 B2 B3 B4 : Nat} {X : Nat → Prop} {w0 : World} (hv : Swath.shB o s lk = true) (hd9 : Globe.inB d (-o.sl) o.sl = true) (hX : ∀ b, b = B1 ∨ b = B2 ∨ b = B3 ∨ b = B4 → ¬ X b) (hXl : ∀ k, X k → k < w0.heap.size) (hS : ShownAt w0 B1 B2 B3 B4 o s lk d) :
  SeqN Tryz.prog 128 #[pw B1 0, pw B2 0, pw B3 0, pw B4 0] (s.2 - s.1).toNat (fun i => [.agg #[iv ((Swath.sx o lk (s.1 + ((i : Nat) : Int) - d) : Nat) : Int), iv ((Orb.cy o (s.1 + ((i : Nat) : Int) - d) : Nat) : Int), iv (s.1 + ((i : Nat) : Int))]]) (fun _ _ => True) X w0 := by
 intro l J Jx w hW hJst hJxst hY C2 n;obtain ⟨hok, ⟨Cc, Cd, Ce, Cf⟩, C9, Ca⟩ := Swath.shB_t.1 hv;have Cb := Orb.ok_t.1 hok;have hd := Globe.inB_t.1 hd9;obtain ⟨a0, a1, o0, o1, o2, o3, o4, o5, o6, d0, l0⟩ := hS;replace a0 := hW.cell a0;replace a1 := hW.cell a1;replace o0 := hW.cell o0;replace o1 := hW.cell o1;replace o2 := hW.cell o2;replace o3 := hW.cell o3;replace o4 := hW.cell o4;replace o5 := hW.cell o5;replace o6 := hW.cell o6;replace d0 := hW.cell d0;replace l0 := hW.cell l0;have Bi : B1 < w.heap.size := World.block_lt_of_cell? _ _ a0;have Be : B2 < w.heap.size := World.block_lt_of_cell? _ _ o0;have Bk : B3 < w.heap.size := World.block_lt_of_cell? _ _ d0;have Bm : B4 < w.heap.size := World.block_lt_of_cell? _ _ l0;refine icalls 39 [(4, pw B4 0), (3, pw B3 0), (2, pw B2 0), (1, pw B1 0), (0, .func (.yield l) #[] #[])] Tryz.func128 rfl Tryz.ntmps128 (by kernel_rfl) (by kernel_rfl) (fun L mm => ?_);have hE := Ext.refl w;refine icw_seq (icw_plain (iT (pw B1 0) ?_));refine iU (iv s.1) (xl (ld3 (a0))) ?_;refine iU (iv (s.1 + ((0 : Nat) : Int) : Int)) (ev_int (show _ = Result.ok (Next.value (Value.int .i64 s.1)) _ from by kernel_rfl) (by omega)) ?_;refine ipl_nil (iqw_then (icw_block ?_));have Br := hJst _ _ _ C2 (Ext.refl _);refine icw_loop [0, 1, 2, 3, 4, 6] (fun ws' wr m => ∃ i : Nat, ws' = [(0, .func (.yield l) #[] #[]), (1, pw B1 0), (2, pw B2 0), (3, pw B3 0), (4, pw B4 0), (6, iv (s.1 + ((i : Nat) : Int) : Int))] ∧ m = (s.2 - s.1).toNat - i ∧ w.heap.size ≤ wr.heap.size ∧ wr.cell? ⟨B1, 0, none⟩ = some (iv s.1) ∧ wr.cell? ⟨B1, 1, none⟩ = some (iv s.2) ∧ wr.cell? ⟨B2, 0, none⟩ = some (iv o.p) ∧ wr.cell? ⟨B2, 1, none⟩ = some (iv o.f) ∧ wr.cell? ⟨B2, 2, none⟩ = some (iv o.lo) ∧ wr.cell? ⟨B2, 3, none⟩ = some (iv o.hi) ∧ wr.cell? ⟨B2, 4, none⟩ = some (iv o.nd) ∧ wr.cell? ⟨B2, 5, none⟩ = some (iv o.tn) ∧ wr.cell? ⟨B2, 6, none⟩ = some (iv o.sl) ∧ wr.cell? ⟨B3, 0, none⟩ = some (iv d) ∧ wr.cell? ⟨B4, 0, none⟩ = some (iv lk) ∧ J i wr ∧ i ≤ (s.2 - s.1).toNat) (ws0 := [(0, .func (.yield l) #[] #[]), (1, pw B1 0), (2, pw B2 0), (3, pw B3 0), (4, pw B4 0), (6, iv (s.1 + ((0 : Nat) : Int) : Int))]) (by kernel_rfl) _ ⟨0, rfl, rfl, Nat.le_refl _, a0, a1, o0, o1, o2, o3, o4, o5, o6, d0, l0, Br, by omega⟩ ?_;clear a0 a1 o0 o1 o2 o3 o4 o5 o6 d0 l0;rintro m4 L ws w3 ⟨i, rfl, rfl, Bg, a0, a1, o0, o1, o2, o3, o4, o5, o6, d0, l0, Bz, hi⟩;have Bh := Ext.refl w3
 by_cases hlt : i < (s.2 - s.1).toNat
 ·
  have hat : Orb.atB o (s.1 + ((i : Nat) : Int)) d = true := by unfold Orb.atB;rw [Globe.inB_t.2 ⟨by omega, by omega⟩, Globe.inB_t.2 ⟨by omega, by omega⟩, hok];rfl
  have hcx := Orb.cx_lt o (s.1 + ((i : Nat) : Int) - d);refine icw_seq (icw_seq (icw_plain (iT (iv (s.1 + ((i : Nat) : Int) : Int)) ?_)));refine iT (pw B1 1) ?_;refine iU (iv s.2) (xl (ld3 (a1))) ?_;refine iU (.bool true) (ed ((s.1 + ((i : Nat) : Int) : Int) < (s.2 : Int)) (by omega)) ?_;refine ipl_nil (iqw_then (icw_t (by kernel_rfl) ?_));refine icw_skip (iqw_then (icw_seq (icw_block ?_)));refine icw_seq (icw_plain (iU (.agg #[iv o.p, iv o.f, iv o.lo, iv o.hi, iv o.nd, iv o.tn, iv o.sl]) (xl (ld26 (o0) (o1) (o2) (o3) (o4) (o5) (o6))) ?_));refine iT (iv (s.1 + ((i : Nat) : Int) : Int)) ?_;refine iU (iv d) (xl (ld3 (d0))) ?_;refine iS (sc 129 #[.agg #[iv o.p, iv o.f, iv o.lo, iv o.hi, iv o.nd, iv o.tn, iv o.sl], iv (s.1 + ((i : Nat) : Int) : Int), iv d] ((At_y o (s.1 + ((i : Nat) : Int)) d _ (hat)).mono ?_));rintro e w6 ⟨rfl, hb⟩;replace Bh := Bh.trans hb;replace a0 := hb.cell a0;replace a1 := hb.cell a1;replace o0 := hb.cell o0;replace o1 := hb.cell o1;replace o2 := hb.cell o2;replace o3 := hb.cell o3;replace o4 := hb.cell o4;replace o5 := hb.cell o5;replace o6 := hb.cell o6;replace d0 := hb.cell d0;replace l0 := hb.cell l0;have Bf := hb.size;refine ⟨_, rfl, iT (.tuple #[.agg #[iv (((Orb.cx o ((s.1 + ((i : Nat) : Int)) - d) : Nat) : Int) : Int), iv (((Orb.cy o ((s.1 + ((i : Nat) : Int)) - d) : Nat) : Int) : Int)], iv 0]) ?_⟩;refine iT (.agg #[iv (((Orb.cx o ((s.1 + ((i : Nat) : Int)) - d) : Nat) : Int) : Int), iv (((Orb.cy o ((s.1 + ((i : Nat) : Int)) - d) : Nat) : Int) : Int)]) ?_;refine iT (iv 0) ?_;refine iS (sw 65 #[iv 0, iv 0] ?_);intro O8 X9 Bb C6 hb hbx;have ⟨Ba, Bc⟩ := bq2 hbx;replace Bh := Bh.trans hb;replace a0 := hb.cell a0;replace a1 := hb.cell a1;replace o0 := hb.cell o0;replace o1 := hb.cell o1;replace o2 := hb.cell o2;replace o3 := hb.cell o3;replace o4 := hb.cell o4;replace o5 := hb.cell o5;replace o6 := hb.cell o6;replace d0 := hb.cell d0;replace l0 := hb.cell l0;have Bt := hb.size;have C8 := Ba.lt;refine iP (sn_set2 (O := O8) (j := 0) (v := iv (((Orb.cx o ((s.1 + ((i : Nat) : Int)) - d) : Nat) : Int) : Int)) (v' := iv (((Orb.cy o ((s.1 + ((i : Nat) : Int)) - d) : Nat) : Int) : Int)) (xt (pw O8 0) (.agg #[iv (((Orb.cx o ((s.1 + ((i : Nat) : Int)) - d) : Nat) : Int) : Int), iv (((Orb.cy o ((s.1 + ((i : Nat) : Int)) - d) : Nat) : Int) : Int)]) (st65 Ba.1 Ba.2 Bc.1 Bc.2)) Ba Bc ?_);intro Bx ho Ba Bc hk;replace Bh := ho.ext Bh (T Bf (Nat.le_of_eq Bb));replace a0 := ho.cell (Nat.ne_of_gt (Nat.lt_of_lt_of_le Bi (T (T Bg Bf) (Nat.le_of_eq Bb)))) a0;replace a1 := ho.cell (Nat.ne_of_gt (Nat.lt_of_lt_of_le Bi (T (T Bg Bf) (Nat.le_of_eq Bb)))) a1;replace o0 := ho.cell (Nat.ne_of_gt (Nat.lt_of_lt_of_le Be (T (T Bg Bf) (Nat.le_of_eq Bb)))) o0;replace o1 := ho.cell (Nat.ne_of_gt (Nat.lt_of_lt_of_le Be (T (T Bg Bf) (Nat.le_of_eq Bb)))) o1;replace o2 := ho.cell (Nat.ne_of_gt (Nat.lt_of_lt_of_le Be (T (T Bg Bf) (Nat.le_of_eq Bb)))) o2;replace o3 := ho.cell (Nat.ne_of_gt (Nat.lt_of_lt_of_le Be (T (T Bg Bf) (Nat.le_of_eq Bb)))) o3;replace o4 := ho.cell (Nat.ne_of_gt (Nat.lt_of_lt_of_le Be (T (T Bg Bf) (Nat.le_of_eq Bb)))) o4;replace o5 := ho.cell (Nat.ne_of_gt (Nat.lt_of_lt_of_le Be (T (T Bg Bf) (Nat.le_of_eq Bb)))) o5;replace o6 := ho.cell (Nat.ne_of_gt (Nat.lt_of_lt_of_le Be (T (T Bg Bf) (Nat.le_of_eq Bb)))) o6;replace d0 := ho.cell (Nat.ne_of_gt (Nat.lt_of_lt_of_le Bk (T (T Bg Bf) (Nat.le_of_eq Bb)))) d0;replace l0 := ho.cell (Nat.ne_of_gt (Nat.lt_of_lt_of_le Bm (T (T Bg Bf) (Nat.le_of_eq Bb)))) l0;have Bu := Nat.le_of_eq ho.size.symm;clear ho hk;refine iT (iv 0) ?_;refine ipl_nil (iqw_then (icw_clean [0, 1, 2, 3, 4, 6, 7, 8] (ws' := [(0, .func (.yield l) #[] #[]), (1, pw B1 0), (2, pw B2 0), (3, pw B3 0), (4, pw B4 0), (6, iv (s.1 + ((i : Nat) : Int) : Int)), (7, pw O8 0), (8, iv 0)]) (by kernel_rfl) (fun L => ?_)));refine icw_seq (icw_seq (icw_plain (iT (iv 0) ?_)));refine iT (.bool false) ?_;refine ipl_nil (iqw_then (icw_f (by kernel_rfl) ?_));refine icw_skip (iqw_then (icw_seq (icw_plain (iT (pw O8 0) ?_))));refine iU (iv (((Orb.cx o ((s.1 + ((i : Nat) : Int)) - d) : Nat) : Int) : Int)) (xl (ld3 (Ba.1))) ?_;refine iU (iv lk) (xl (ld3 (l0))) ?_;refine iU (iv ((((Orb.cx o ((s.1 + ((i : Nat) : Int)) - d) : Nat) : Int)) + lk : Int)) (ew (by omega) (by omega)) ?_;refine iU (iv (((((Orb.cx o ((s.1 + ((i : Nat) : Int)) - d) : Nat) : Int)) + lk) + 48 : Int)) (ew (by omega) (by omega)) ?_;refine iU (iv (((Swath.sx o lk (s.1 + ((i : Nat) : Int) - d) : Nat) : Int) : Int)) (ev_int (ex_bin (a := ((Orb.cx o (s.1 + ((i : Nat) : Int) - d) : Nat) : Int) + lk + 48) (b := 48) rfl (by kernel_rfl) (by kernel_rfl) (bin_tmod (by omega))) ((Int.tmod_eq_emod_of_nonneg (by omega)).trans (Swath.sx_z o lk _))) ?_;refine iT (pw O8 0) ?_;refine iP (zE O8 0 (iv (((Swath.sx o lk (s.1 + ((i : Nat) : Int) - d) : Nat) : Int) : Int)) (st3 Ba.1 Ba.2) Ba ?_);intro C1 ho Ba hk;replace Bh := ho.ext Bh (T Bf (Nat.le_of_eq Bb));replace a0 := ho.cell (Nat.ne_of_gt (Nat.lt_of_lt_of_le Bi (T (T Bg Bf) (Nat.le_of_eq Bb)))) a0;replace a1 := ho.cell (Nat.ne_of_gt (Nat.lt_of_lt_of_le Bi (T (T Bg Bf) (Nat.le_of_eq Bb)))) a1;replace o0 := ho.cell (Nat.ne_of_gt (Nat.lt_of_lt_of_le Be (T (T Bg Bf) (Nat.le_of_eq Bb)))) o0;replace o1 := ho.cell (Nat.ne_of_gt (Nat.lt_of_lt_of_le Be (T (T Bg Bf) (Nat.le_of_eq Bb)))) o1;replace o2 := ho.cell (Nat.ne_of_gt (Nat.lt_of_lt_of_le Be (T (T Bg Bf) (Nat.le_of_eq Bb)))) o2;replace o3 := ho.cell (Nat.ne_of_gt (Nat.lt_of_lt_of_le Be (T (T Bg Bf) (Nat.le_of_eq Bb)))) o3;replace o4 := ho.cell (Nat.ne_of_gt (Nat.lt_of_lt_of_le Be (T (T Bg Bf) (Nat.le_of_eq Bb)))) o4;replace o5 := ho.cell (Nat.ne_of_gt (Nat.lt_of_lt_of_le Be (T (T Bg Bf) (Nat.le_of_eq Bb)))) o5;replace o6 := ho.cell (Nat.ne_of_gt (Nat.lt_of_lt_of_le Be (T (T Bg Bf) (Nat.le_of_eq Bb)))) o6;replace d0 := ho.cell (Nat.ne_of_gt (Nat.lt_of_lt_of_le Bk (T (T Bg Bf) (Nat.le_of_eq Bb)))) d0;replace l0 := ho.cell (Nat.ne_of_gt (Nat.lt_of_lt_of_le Bm (T (T Bg Bf) (Nat.le_of_eq Bb)))) l0;replace Bc := hk 1 _ (by omega) Bc;have Bv := Nat.le_of_eq ho.size.symm;clear ho hk
  refine ipl_nil (iqw_then (icw_clean [0, 1, 2, 3, 4, 6, 7] (ws' := [(0, .func (.yield l) #[] #[]), (1, pw B1 0), (2, pw B2 0), (3, pw B3 0), (4, pw B4 0), (6, iv (s.1 + ((i : Nat) : Int) : Int)), (7, pw O8 0)]) (by kernel_rfl) (fun L => ?_)));refine icw_seq (icw_plain (iT (.func (.yield l) #[] #[]) ?_));refine iU (.agg #[iv (((Swath.sx o lk (s.1 + ((i : Nat) : Int) - d) : Nat) : Int) : Int), iv (((Orb.cy o ((s.1 + ((i : Nat) : Int)) - d) : Nat) : Int) : Int)]) (xl (ld65 (Ba.1) (Bc.1))) ?_;refine iT (iv (s.1 + ((i : Nat) : Int) : Int)) ?_;refine iT (.agg #[iv (((Swath.sx o lk (s.1 + ((i : Nat) : Int) - d) : Nat) : Int) : Int), iv (((Orb.cy o ((s.1 + ((i : Nat) : Int)) - d) : Nat) : Int) : Int), iv (s.1 + ((i : Nat) : Int) : Int)]) ?_;refine ipl_yield rfl (by kernel_rfl) (by kernel_rfl) (by kernel_rfl) (sy_yield (args := #[.agg #[iv (((Swath.sx o lk (s.1 + ((i : Nat) : Int) - d) : Nat) : Int) : Int), iv (((Orb.cy o ((s.1 + ((i : Nat) : Int)) - d) : Nat) : Int) : Int), iv (s.1 + ((i : Nat) : Int) : Int)]]) rfl (by kernel_rfl) (by kernel_rfl) (yield_mono (hY i _ _ (by omega) (hJst _ _ _ Bz Bh) trivial) ?_));rintro e Bq (⟨rfl, Bj, B7⟩ | ⟨rfl, Bj, B7⟩)
  ·
   replace a0 := B7.cell (hX B1 (.inl rfl)) a0;replace a1 := B7.cell (hX B1 (.inl rfl)) a1;replace o0 := B7.cell (hX B2 (.inr (.inl rfl))) o0;replace o1 := B7.cell (hX B2 (.inr (.inl rfl))) o1;replace o2 := B7.cell (hX B2 (.inr (.inl rfl))) o2;replace o3 := B7.cell (hX B2 (.inr (.inl rfl))) o3;replace o4 := B7.cell (hX B2 (.inr (.inl rfl))) o4;replace o5 := B7.cell (hX B2 (.inr (.inl rfl))) o5;replace o6 := B7.cell (hX B2 (.inr (.inl rfl))) o6;replace d0 := B7.cell (hX B3 (.inr (.inr (.inl rfl)))) d0;replace l0 := B7.cell (hX B4 (.inr (.inr (.inr rfl)))) l0;have q9 := fun ⦃j : Nat⦄ ⦃v : Value⦄ (h : BoxAt _ O8 j v) => B7.box (fun hx => absurd (hXl _ hx) (Nat.not_lt_of_le (T hW.size (T (T Bg Bf) (Nat.le_of_eq Bb))))) h
   clear q9;have Bw := B7.size;have C3 := Ext.refl Bq;refine ⟨_, rfl, iT (.bool false) ?_⟩;refine ipl_nil (iqw_then (icw_f (by kernel_rfl) ?_));refine icw_skip (iqw_block (iqw_then (icw_plain (iT (iv (s.1 + ((i : Nat) : Int) : Int)) ?_))));refine iU (iv (s.1 + ((i + 1 : Nat) : Int) : Int)) (ev_int (ev_wrap (a := s.1 + ((i : Nat) : Int) + 1) (by kernel_rfl) (by omega) (by omega)) (by omega)) ?_;refine iT (iv (s.1 + ((i + 1 : Nat) : Int) : Int)) ?_;refine ipl_nil (iqw_round [0, 1, 2, 3, 4, 6] (ws' := [(0, .func (.yield l) #[] #[]), (1, pw B1 0), (2, pw B2 0), (3, pw B3 0), (4, pw B4 0), (6, iv (s.1 + ((i + 1 : Nat) : Int) : Int))]) (by kernel_rfl) _ ?_ ⟨(i + 1), rfl, rfl, (T Bg (T Bf (T Bt (T Bu (T Bv Bw))))), a0, a1, o0, o1, o2, o3, o4, o5, o6, d0, l0, (hJst _ _ _ Bj (Ext.refl _)), by omega⟩);omega
  ·
   replace a1 := B7.cell (hX B1 (.inl rfl)) a1;have q9 := fun ⦃j : Nat⦄ ⦃v : Value⦄ (h : BoxAt _ O8 j v) => B7.box (fun hx => absurd (hXl _ hx) (Nat.not_lt_of_le (T hW.size (T (T Bg Bf) (Nat.le_of_eq Bb))))) h
   clear q9;have C5 := B7.size;have C4 := Ext.refl Bq;refine ⟨_, rfl, iT (.bool true) ?_⟩;refine ipl_nil (iqw_then (icw_t (by kernel_rfl) ?_));refine icw_ret ?_;refine iqw_block_ret ?_;refine iqw_then_ret ?_;refine iqw_then_ret ?_;refine iqw_block_ret ?_;refine iqw_ret0 [] rfl trivial ?_;exact ⟨⟨_, rfl⟩, .inr ⟨i, by omega, hJxst _ _ _ Bj (Ext.refl _)⟩⟩
 ·
  have hin : i = (s.2 - s.1).toNat := by omega
  refine icw_seq (icw_seq (icw_plain (iT (iv (s.1 + ((i : Nat) : Int) : Int)) ?_)));refine iT (pw B1 1) ?_;refine iU (iv s.2) (xl (ld3 (a1))) ?_;refine iU (.bool false) (en ((s.1 + ((i : Nat) : Int) : Int) < (s.2 : Int)) (by omega)) ?_;refine ipl_nil (iqw_then (icw_f (by kernel_rfl) ?_));refine icw_exit ?_;refine iqw_then_exit ?_;refine iqw_then_exit ?_;refine iqw_block_out ?_;refine iqw_end0 [] rfl trivial ?_;exact ⟨⟨_, rfl⟩, .inl (hin ▸ hJst _ _ _ Bz (Ext.refl _))⟩
end Go.Proofs.YtajdohcgjgknmaaGreatDoor

/- Contract of package swath: area. -/
namespace Go.Proofs.YtajdohcgjgknmaaGreatDoor
open Go.RowKit

theorem show_next {w : World} {B i : Nat} {o : Orb} {lk a d : Int} (h : RowsAt w B ((Swath.showL o lk (a - d) i).set (Orb.cy o (a + ((i : Nat) : Int) - d)) ((Globe.rowN (Swath.showL o lk (a - d) i) (Orb.cy o (a + ((i : Nat) : Int) - d)) ||| 2 ^ Swath.sx o lk (a + ((i : Nat) : Int) - d) : Nat) : Int))) : RowsAt w B (Swath.showL o lk (a - d) (i + 1)) := by
  have e : a - d + ((i : Nat) : Int) = a + ((i : Nat) : Int) - d := by omega
  show RowsAt w B (Globe.putL _ (Swath.sx o lk (a - d + ((i : Nat) : Int))) (Orb.cy o (a - d + ((i : Nat) : Int))))
  rw [e]; exact h
set_option maxRecDepth 1000000 in
set_option maxHeartbeats 4000000 in
theorem area_c (o : Orb) (s : Int × Int) (lk d : Int) (w : World) (hv : Swath.shB o s lk = true) (hd9 : Globe.inB d (-o.sl) o.sl = true) : Calls Tryz.prog 42 #[.agg #[.int .i64 o.p, .int .i64 o.f, .int .i64 o.lo, .int .i64 o.hi, .int .i64 o.nd, .int .i64 o.tn, .int .i64 o.sl], .agg #[.int .i64 s.1, .int .i64 s.2], .int .i64 lk, .int .i64 d] w (RetA w (Swath.showL o lk (s.1 - d) (s.2 - s.1).toNat)) := by
  obtain ⟨hok, ⟨sp0, sp1, sp2, sp3⟩, hl0, hl1⟩ := Swath.shB_t.1 hv
  have hd := Globe.inB_t.1 hd9
  refine icalls_cw 32 [(3, .int .i64 (d : Int)), (2, .int .i64 (lk : Int)), (1, .agg #[.int .i64 (s.1 : Int), .int .i64 (s.2 : Int)]), (0, .agg #[.int .i64 (o.p : Int), .int .i64 (o.f : Int), .int .i64 (o.lo : Int), .int .i64 (o.hi : Int), .int .i64 (o.nd : Int), .int .i64 (o.tn : Int), .int .i64 (o.sl : Int)])] Tryz.func42 rfl Tryz.ntmps42 (by kernel_rfl) (by kernel_rfl) (fun L mm => ?_)
  have hE : Ext w w := Ext.refl w
  refine icw_seq ?_
  refine icw_plain ?_
  refine ipl_step rfl (by kernel_rfl) (by kernel_rfl) (by kernel_rfl) (sn_new (us := #[.int .i64 (o.p : Int), .int .i64 (o.f : Int), .int .i64 (o.lo : Int), .int .i64 (o.hi : Int), .int .i64 (o.nd : Int), .int .i64 (o.tn : Int), .int .i64 (o.sl : Int)]) (t := 26) (by kernel_rfl) ?_)
  intro O1 X2 hO hOs hb hbx
  have hzO1 := hO; have hyO1 := hOs; clear hO hOs
  have bO1_0 : BoxAt X2 O1 0 (.int .i64 (o.p : Int)) := hbx 0 _ rfl
  have bO1_1 : BoxAt X2 O1 1 (.int .i64 (o.f : Int)) := hbx 1 _ rfl
  have bO1_2 : BoxAt X2 O1 2 (.int .i64 (o.lo : Int)) := hbx 2 _ rfl
  have bO1_3 : BoxAt X2 O1 3 (.int .i64 (o.hi : Int)) := hbx 3 _ rfl
  have bO1_4 : BoxAt X2 O1 4 (.int .i64 (o.nd : Int)) := hbx 4 _ rfl
  have bO1_5 : BoxAt X2 O1 5 (.int .i64 (o.tn : Int)) := hbx 5 _ rfl
  have bO1_6 : BoxAt X2 O1 6 (.int .i64 (o.sl : Int)) := hbx 6 _ rfl
  clear hbx
  replace hE := hE.trans hb
  have hs3 := hb.size
  clear hb
  have lt4 := bO1_0.lt
  refine ipl_step rfl (by kernel_rfl) (by kernel_rfl) (by kernel_rfl) (sn_new (us := #[.int .i64 (s.1 : Int), .int .i64 (s.2 : Int)]) (t := 38) (by kernel_rfl) ?_)
  intro O5 X6 hO hOs hb hbx
  have hzO5 := hO; have hyO5 := hOs; clear hO hOs
  have bO5_0 : BoxAt X6 O5 0 (.int .i64 (s.1 : Int)) := hbx 0 _ rfl
  have bO5_1 : BoxAt X6 O5 1 (.int .i64 (s.2 : Int)) := hbx 1 _ rfl
  clear hbx
  replace hE := hE.trans hb
  replace bO1_0 := BoxAt.ext hb bO1_0
  replace bO1_1 := BoxAt.ext hb bO1_1
  replace bO1_2 := BoxAt.ext hb bO1_2
  replace bO1_3 := BoxAt.ext hb bO1_3
  replace bO1_4 := BoxAt.ext hb bO1_4
  replace bO1_5 := BoxAt.ext hb bO1_5
  replace bO1_6 := BoxAt.ext hb bO1_6
  have hs7 := hb.size
  clear hb
  have lt8 := bO5_0.lt
  refine ipl_step rfl (by kernel_rfl) (by kernel_rfl) (by kernel_rfl) (sn_new (us := #[.slice none 0 0]) (t := 33) (by kernel_rfl) ?_)
  intro O9 X10 hO hOs hb hbx
  have hzO9 := hO; have hyO9 := hOs; clear hO hOs
  have bO9_0 : BoxAt X10 O9 0 (.slice none 0 0) := hbx 0 _ rfl
  clear hbx
  replace hE := hE.trans hb
  replace bO1_0 := BoxAt.ext hb bO1_0
  replace bO1_1 := BoxAt.ext hb bO1_1
  replace bO1_2 := BoxAt.ext hb bO1_2
  replace bO1_3 := BoxAt.ext hb bO1_3
  replace bO1_4 := BoxAt.ext hb bO1_4
  replace bO1_5 := BoxAt.ext hb bO1_5
  replace bO1_6 := BoxAt.ext hb bO1_6
  replace bO5_0 := BoxAt.ext hb bO5_0
  replace bO5_1 := BoxAt.ext hb bO5_1
  have hs11 := hb.size
  clear hb
  have lt12 := bO9_0.lt
  refine ipl_nil ?_
  refine iqw_then ?_
  refine icw_seq ?_
  refine icw_plain ?_
  refine ipl_step rfl (by kernel_rfl) (by kernel_rfl) (by kernel_rfl) (sn_call (f := 95) (args := #[]) (by kernel_rfl) ((Empty_c _).mono ?_))
  rintro e w16 ⟨B13, rfl, hn14, hr15, hb⟩
  replace hE := hE.trans hb
  replace bO1_0 := BoxAt.ext hb bO1_0
  replace bO1_1 := BoxAt.ext hb bO1_1
  replace bO1_2 := BoxAt.ext hb bO1_2
  replace bO1_3 := BoxAt.ext hb bO1_3
  replace bO1_4 := BoxAt.ext hb bO1_4
  replace bO1_5 := BoxAt.ext hb bO1_5
  replace bO1_6 := BoxAt.ext hb bO1_6
  replace bO5_0 := BoxAt.ext hb bO5_0
  replace bO5_1 := BoxAt.ext hb bO5_1
  replace bO9_0 := BoxAt.ext hb bO9_0
  have hs17 := hb.size
  clear hb
  have lt18 := hr15.lt
  refine ⟨_, rfl, ?_⟩
  refine ipl_step rfl (by kernel_rfl) (by kernel_rfl) (by kernel_rfl) (sn_new (us := #[.slice none 0 0]) (t := 33) (by kernel_rfl) ?_)
  intro O19 X20 hO hOs hb hbx
  have hzO19 := hO; have hyO19 := hOs; clear hO hOs
  have bO19_0 : BoxAt X20 O19 0 (.slice none 0 0) := hbx 0 _ rfl
  clear hbx
  replace hE := hE.trans hb
  replace bO1_0 := BoxAt.ext hb bO1_0
  replace bO1_1 := BoxAt.ext hb bO1_1
  replace bO1_2 := BoxAt.ext hb bO1_2
  replace bO1_3 := BoxAt.ext hb bO1_3
  replace bO1_4 := BoxAt.ext hb bO1_4
  replace bO1_5 := BoxAt.ext hb bO1_5
  replace bO1_6 := BoxAt.ext hb bO1_6
  replace bO5_0 := BoxAt.ext hb bO5_0
  replace bO5_1 := BoxAt.ext hb bO5_1
  replace bO9_0 := BoxAt.ext hb bO9_0
  replace hr15 := hr15.ext hb
  have hs21 := hb.size
  clear hb
  have lt22 := bO19_0.lt
  refine ipl_put rfl (by kernel_rfl) (by kernel_rfl) (sn_set (O := O19) (j := 0) (v := .slice (some ⟨B13, 0, none⟩) 24 24) (ex_store (p := .pointer (some ⟨O19, 0, none⟩)) (v := .agg #[.slice (some ⟨B13, 0, none⟩) 24 24]) rfl (by kernel_rfl) (by kernel_rfl) (st33 bO19_0.1 bO19_0.2)) bO19_0 ?_)
  intro X23 ho hv0 hk
  replace hE := ho.ext hE (Nat.le_trans (Nat.le_trans hs3 (Nat.le_trans hs7 (Nat.le_trans hs11 hs17))) (Nat.le_of_eq hzO19))
  replace bO1_0 := ho.box (Nat.ne_of_gt (Nat.lt_of_lt_of_le lt4 (Nat.le_trans (Nat.le_trans hs7 (Nat.le_trans hs11 hs17)) (Nat.le_of_eq hzO19)))) bO1_0
  replace bO1_1 := ho.box (Nat.ne_of_gt (Nat.lt_of_lt_of_le lt4 (Nat.le_trans (Nat.le_trans hs7 (Nat.le_trans hs11 hs17)) (Nat.le_of_eq hzO19)))) bO1_1
  replace bO1_2 := ho.box (Nat.ne_of_gt (Nat.lt_of_lt_of_le lt4 (Nat.le_trans (Nat.le_trans hs7 (Nat.le_trans hs11 hs17)) (Nat.le_of_eq hzO19)))) bO1_2
  replace bO1_3 := ho.box (Nat.ne_of_gt (Nat.lt_of_lt_of_le lt4 (Nat.le_trans (Nat.le_trans hs7 (Nat.le_trans hs11 hs17)) (Nat.le_of_eq hzO19)))) bO1_3
  replace bO1_4 := ho.box (Nat.ne_of_gt (Nat.lt_of_lt_of_le lt4 (Nat.le_trans (Nat.le_trans hs7 (Nat.le_trans hs11 hs17)) (Nat.le_of_eq hzO19)))) bO1_4
  replace bO1_5 := ho.box (Nat.ne_of_gt (Nat.lt_of_lt_of_le lt4 (Nat.le_trans (Nat.le_trans hs7 (Nat.le_trans hs11 hs17)) (Nat.le_of_eq hzO19)))) bO1_5
  replace bO1_6 := ho.box (Nat.ne_of_gt (Nat.lt_of_lt_of_le lt4 (Nat.le_trans (Nat.le_trans hs7 (Nat.le_trans hs11 hs17)) (Nat.le_of_eq hzO19)))) bO1_6
  replace bO5_0 := ho.box (Nat.ne_of_gt (Nat.lt_of_lt_of_le lt8 (Nat.le_trans (Nat.le_trans hs11 hs17) (Nat.le_of_eq hzO19)))) bO5_0
  replace bO5_1 := ho.box (Nat.ne_of_gt (Nat.lt_of_lt_of_le lt8 (Nat.le_trans (Nat.le_trans hs11 hs17) (Nat.le_of_eq hzO19)))) bO5_1
  replace bO9_0 := ho.box (Nat.ne_of_gt (Nat.lt_of_lt_of_le lt12 (Nat.le_trans hs17 (Nat.le_of_eq hzO19)))) bO9_0
  replace hr15 := ho.rows (Nat.ne_of_gt (Nat.lt_of_lt_of_le lt18 (Nat.le_of_eq hzO19))) hr15
  have hs24 : X20.heap.size ≤ X23.heap.size := Nat.le_of_eq ho.size.symm
  clear ho hk bO19_0
  have bO19_0 := hv0; clear hv0
  refine ipl_nil ?_
  refine iqw_then ?_
  refine icw_seq ?_
  refine icw_seq ?_
  refine icw_plain ?_
  refine ipl_take (.agg #[.int .i64 (o.p : Int), .int .i64 (o.f : Int), .int .i64 (o.lo : Int), .int .i64 (o.hi : Int), .int .i64 (o.nd : Int), .int .i64 (o.tn : Int), .int .i64 (o.sl : Int)]) rfl (by kernel_rfl) (by kernel_rfl) (by kernel_rfl) (ex_load rfl (by kernel_rfl) (ld26 (bO1_0.1) (bO1_1.1) (bO1_2.1) (bO1_3.1) (bO1_4.1) (bO1_5.1) (bO1_6.1))) ?_
  refine ipl_take (.agg #[.int .i64 (s.1 : Int), .int .i64 (s.2 : Int)]) rfl (by kernel_rfl) (by kernel_rfl) (by kernel_rfl) (ex_load rfl (by kernel_rfl) (ld38 (bO5_0.1) (bO5_1.1))) ?_
  refine ipl_take (.int .i64 (lk : Int)) rfl (by kernel_rfl) (by kernel_rfl) (by kernel_rfl) (by kernel_rfl) ?_
  refine ipl_take (.int .i64 (d : Int)) rfl (by kernel_rfl) (by kernel_rfl) (by kernel_rfl) (by kernel_rfl) ?_
  refine ipl_step rfl (by kernel_rfl) (by kernel_rfl) (by kernel_rfl) (sn_call (f := 96) (args := #[.agg #[.int .i64 (o.p : Int), .int .i64 (o.f : Int), .int .i64 (o.lo : Int), .int .i64 (o.hi : Int), .int .i64 (o.nd : Int), .int .i64 (o.tn : Int), .int .i64 (o.sl : Int)], .agg #[.int .i64 (s.1 : Int), .int .i64 (s.2 : Int)], .int .i64 (lk : Int), .int .i64 (d : Int)]) (by kernel_rfl) ((shown_c o s lk d _).mono ?_))
  rintro e w34 ⟨B25, B26, B27, B28, rfl, ⟨hn29, hn30, hn31, hn32⟩, hS33, hb⟩
  replace hE := hE.trans hb
  replace bO1_0 := BoxAt.ext hb bO1_0
  replace bO1_1 := BoxAt.ext hb bO1_1
  replace bO1_2 := BoxAt.ext hb bO1_2
  replace bO1_3 := BoxAt.ext hb bO1_3
  replace bO1_4 := BoxAt.ext hb bO1_4
  replace bO1_5 := BoxAt.ext hb bO1_5
  replace bO1_6 := BoxAt.ext hb bO1_6
  replace bO5_0 := BoxAt.ext hb bO5_0
  replace bO5_1 := BoxAt.ext hb bO5_1
  replace bO9_0 := BoxAt.ext hb bO9_0
  replace hr15 := hr15.ext hb
  replace bO19_0 := BoxAt.ext hb bO19_0
  have hs35 := hb.size
  clear hb
  have hX36 : Ext w34 w34 := Ext.refl _
  refine ⟨_, rfl, ?_⟩
  refine ipl_nil ?_
  refine iqw_then ?_
  refine icw_block ?_
  refine icw_range (ps := [17]) (by kernel_rfl) (enters_of Tryz.func128 (by kernel_rfl) rfl) (shown_seq hv hd9 (fun b hb hx => (fun h => h.elim (fun e => (Nat.ne_of_gt (Nat.lt_of_lt_of_le lt18 (Nat.le_trans (Nat.le_trans hs21 hs24) hn29))) (e.symm.trans hx)) (fun h => h.elim (fun e => (Nat.ne_of_gt (Nat.lt_of_lt_of_le lt18 (Nat.le_trans (Nat.le_trans hs21 hs24) hn30))) (e.symm.trans hx)) (fun h => h.elim (fun e => (Nat.ne_of_gt (Nat.lt_of_lt_of_le lt18 (Nat.le_trans (Nat.le_trans hs21 hs24) hn31))) (e.symm.trans hx)) (fun e => (Nat.ne_of_gt (Nat.lt_of_lt_of_le lt18 (Nat.le_trans (Nat.le_trans hs21 hs24) hn32))) (e.symm.trans hx))))) hb) (fun k hk => hk ▸ (Nat.lt_of_lt_of_le lt18 (Nat.le_trans hs21 (Nat.le_trans hs24 hs35)))) hS33) (Ext.refl _) (fun _ => rfl) (by kernel_rfl) (fun i W => w34.heap.size ≤ W.heap.size ∧ Ext w W ∧ BoxAt W O1 0 (.int .i64 (o.p : Int)) ∧ BoxAt W O1 1 (.int .i64 (o.f : Int)) ∧ BoxAt W O1 2 (.int .i64 (o.lo : Int)) ∧ BoxAt W O1 3 (.int .i64 (o.hi : Int)) ∧ BoxAt W O1 4 (.int .i64 (o.nd : Int)) ∧ BoxAt W O1 5 (.int .i64 (o.tn : Int)) ∧ BoxAt W O1 6 (.int .i64 (o.sl : Int)) ∧ BoxAt W O5 0 (.int .i64 (s.1 : Int)) ∧ BoxAt W O5 1 (.int .i64 (s.2 : Int)) ∧ BoxAt W O9 0 (.slice none 0 0) ∧ BoxAt W O19 0 (.slice (some ⟨B13, 0, none⟩) 24 24) ∧ RowsAt W B13 (Swath.showL o lk (s.1 - d) i)) (fun _ _ _ => False) (fun i A B h hm => by obtain ⟨hsz, hE, bO1_0, bO1_1, bO1_2, bO1_3, bO1_4, bO1_5, bO1_6, bO5_0, bO5_1, bO9_0, bO19_0, hr9⟩ := h; exact ⟨Nat.le_trans hsz hm.size, hm.ext hE (Nat.le_trans hs3 (Nat.le_trans hs7 (Nat.le_trans hs11 (Nat.le_trans hs17 (Nat.le_trans hs21 (Nat.le_trans hs24 hs35)))))), hm.box bO1_0, hm.box bO1_1, hm.box bO1_2, hm.box bO1_3, hm.box bO1_4, hm.box bO1_5, hm.box bO1_6, hm.box bO5_0, hm.box bO5_1, hm.box bO9_0, hm.box bO19_0, hm.rows hr9⟩) (fun _ _ _ _ h _ => h.elim) ⟨Nat.le_refl _, hE, bO1_0, bO1_1, bO1_2, bO1_3, bO1_4, bO1_5, bO1_6, bO5_0, bO5_1, bO9_0, bO19_0, hr15⟩ ?_ ?_ ?_
  ·
    clear bO1_0 bO1_1 bO1_2 bO1_3 bO1_4 bO1_5 bO1_6 bO5_0 bO5_1 bO9_0 hr15 bO19_0 hE
    intro l39 k40 i w37 hii h _
    obtain ⟨hs38, hE, bO1_0, bO1_1, bO1_2, bO1_3, bO1_4, bO1_5, bO1_6, bO5_0, bO5_1, bO9_0, bO19_0, hr9⟩ := h
    refine icw_clean [9, 17] (ws' := [(9, .pointer (some ⟨O19, 0, none⟩)), (17, .agg #[.int .i64 (((Swath.sx o lk (s.1 + ((i : Nat) : Int) - d) : Nat) : Int) : Int), .int .i64 (((Orb.cy o (s.1 + ((i : Nat) : Int) - d) : Nat) : Int) : Int), .int .i64 (s.1 + ((i : Nat) : Int) : Int)])]) (by kernel_rfl) (fun L => ?_)
    have hrk41 : RK w34.heap.size (fun k => k = B13) w37 w37 := RK.refl _ _ _
    refine icw_plain ?_
    refine ipl_step rfl (by kernel_rfl) (by kernel_rfl) (by kernel_rfl) (sn_new (us := #[.int .i64 0, .int .i64 0, .int .i64 0]) (t := 127) (by kernel_rfl) ?_)
    intro O42 X43 hO hOs hb hbx
    have hzO42 := hO; have hyO42 := hOs; clear hO hOs
    have bO42_0 : BoxAt X43 O42 0 (.int .i64 0) := hbx 0 _ rfl
    have bO42_1 : BoxAt X43 O42 1 (.int .i64 0) := hbx 1 _ rfl
    have bO42_2 : BoxAt X43 O42 2 (.int .i64 0) := hbx 2 _ rfl
    clear hbx
    replace hE := hE.trans hb
    replace bO1_0 := BoxAt.ext hb bO1_0
    replace bO1_1 := BoxAt.ext hb bO1_1
    replace bO1_2 := BoxAt.ext hb bO1_2
    replace bO1_3 := BoxAt.ext hb bO1_3
    replace bO1_4 := BoxAt.ext hb bO1_4
    replace bO1_5 := BoxAt.ext hb bO1_5
    replace bO1_6 := BoxAt.ext hb bO1_6
    replace bO5_0 := BoxAt.ext hb bO5_0
    replace bO5_1 := BoxAt.ext hb bO5_1
    replace bO9_0 := BoxAt.ext hb bO9_0
    replace bO19_0 := BoxAt.ext hb bO19_0
    replace hr9 := hr9.ext hb
    replace hrk41 := hrk41.ext hb
    have hs44 := hb.size
    clear hb
    have lt45 := bO42_0.lt
    refine ipl_put rfl (by kernel_rfl) (by kernel_rfl) (sn_setK3 (O := O42) (j := 0) (v0 := .int .i64 (((Swath.sx o lk (s.1 + ((i : Nat) : Int) - d) : Nat) : Int) : Int)) (v1 := .int .i64 (((Orb.cy o (s.1 + ((i : Nat) : Int) - d) : Nat) : Int) : Int)) (v2 := .int .i64 (s.1 + ((i : Nat) : Int) : Int)) (ex_store (p := .pointer (some ⟨O42, 0, none⟩)) (v := .agg #[.int .i64 (((Swath.sx o lk (s.1 + ((i : Nat) : Int) - d) : Nat) : Int) : Int), .int .i64 (((Orb.cy o (s.1 + ((i : Nat) : Int) - d) : Nat) : Int) : Int), .int .i64 (s.1 + ((i : Nat) : Int) : Int)]) rfl (by kernel_rfl) (by kernel_rfl) (st127 bO42_0.1 bO42_0.2 bO42_1.1 bO42_1.2 bO42_2.1 bO42_2.2)) bO42_0 bO42_1 bO42_2 ?_)
    intro X46 ho hv0 hv1 hv2 hk
    replace hE := ho.ext hE (Nat.le_trans (Nat.le_trans hs3 (Nat.le_trans hs7 (Nat.le_trans hs11 (Nat.le_trans hs17 (Nat.le_trans hs21 (Nat.le_trans hs24 (Nat.le_trans hs35 hs38))))))) (Nat.le_of_eq hzO42))
    replace bO1_0 := ho.box (Nat.ne_of_gt (Nat.lt_of_lt_of_le lt4 (Nat.le_trans (Nat.le_trans hs7 (Nat.le_trans hs11 (Nat.le_trans hs17 (Nat.le_trans hs21 (Nat.le_trans hs24 (Nat.le_trans hs35 hs38)))))) (Nat.le_of_eq hzO42)))) bO1_0
    replace bO1_1 := ho.box (Nat.ne_of_gt (Nat.lt_of_lt_of_le lt4 (Nat.le_trans (Nat.le_trans hs7 (Nat.le_trans hs11 (Nat.le_trans hs17 (Nat.le_trans hs21 (Nat.le_trans hs24 (Nat.le_trans hs35 hs38)))))) (Nat.le_of_eq hzO42)))) bO1_1
    replace bO1_2 := ho.box (Nat.ne_of_gt (Nat.lt_of_lt_of_le lt4 (Nat.le_trans (Nat.le_trans hs7 (Nat.le_trans hs11 (Nat.le_trans hs17 (Nat.le_trans hs21 (Nat.le_trans hs24 (Nat.le_trans hs35 hs38)))))) (Nat.le_of_eq hzO42)))) bO1_2
    replace bO1_3 := ho.box (Nat.ne_of_gt (Nat.lt_of_lt_of_le lt4 (Nat.le_trans (Nat.le_trans hs7 (Nat.le_trans hs11 (Nat.le_trans hs17 (Nat.le_trans hs21 (Nat.le_trans hs24 (Nat.le_trans hs35 hs38)))))) (Nat.le_of_eq hzO42)))) bO1_3
    replace bO1_4 := ho.box (Nat.ne_of_gt (Nat.lt_of_lt_of_le lt4 (Nat.le_trans (Nat.le_trans hs7 (Nat.le_trans hs11 (Nat.le_trans hs17 (Nat.le_trans hs21 (Nat.le_trans hs24 (Nat.le_trans hs35 hs38)))))) (Nat.le_of_eq hzO42)))) bO1_4
    replace bO1_5 := ho.box (Nat.ne_of_gt (Nat.lt_of_lt_of_le lt4 (Nat.le_trans (Nat.le_trans hs7 (Nat.le_trans hs11 (Nat.le_trans hs17 (Nat.le_trans hs21 (Nat.le_trans hs24 (Nat.le_trans hs35 hs38)))))) (Nat.le_of_eq hzO42)))) bO1_5
    replace bO1_6 := ho.box (Nat.ne_of_gt (Nat.lt_of_lt_of_le lt4 (Nat.le_trans (Nat.le_trans hs7 (Nat.le_trans hs11 (Nat.le_trans hs17 (Nat.le_trans hs21 (Nat.le_trans hs24 (Nat.le_trans hs35 hs38)))))) (Nat.le_of_eq hzO42)))) bO1_6
    replace bO5_0 := ho.box (Nat.ne_of_gt (Nat.lt_of_lt_of_le lt8 (Nat.le_trans (Nat.le_trans hs11 (Nat.le_trans hs17 (Nat.le_trans hs21 (Nat.le_trans hs24 (Nat.le_trans hs35 hs38))))) (Nat.le_of_eq hzO42)))) bO5_0
    replace bO5_1 := ho.box (Nat.ne_of_gt (Nat.lt_of_lt_of_le lt8 (Nat.le_trans (Nat.le_trans hs11 (Nat.le_trans hs17 (Nat.le_trans hs21 (Nat.le_trans hs24 (Nat.le_trans hs35 hs38))))) (Nat.le_of_eq hzO42)))) bO5_1
    replace bO9_0 := ho.box (Nat.ne_of_gt (Nat.lt_of_lt_of_le lt12 (Nat.le_trans (Nat.le_trans hs17 (Nat.le_trans hs21 (Nat.le_trans hs24 (Nat.le_trans hs35 hs38)))) (Nat.le_of_eq hzO42)))) bO9_0
    replace bO19_0 := ho.box (Nat.ne_of_gt (Nat.lt_of_lt_of_le lt22 (Nat.le_trans (Nat.le_trans hs24 (Nat.le_trans hs35 hs38)) (Nat.le_of_eq hzO42)))) bO19_0
    replace hr9 := ho.rows (Nat.ne_of_gt (Nat.lt_of_lt_of_le lt18 (Nat.le_trans (Nat.le_trans hs21 (Nat.le_trans hs24 (Nat.le_trans hs35 hs38))) (Nat.le_of_eq hzO42)))) hr9
    replace hrk41 := hrk41.turn ho (.inr (Nat.le_of_eq hzO42))
    have hs47 : X43.heap.size ≤ X46.heap.size := Nat.le_of_eq ho.size.symm
    clear ho hk bO42_0 bO42_1 bO42_2
    have bO42_0 := hv0; clear hv0
    have bO42_1 := hv1; clear hv1
    have bO42_2 := hv2; clear hv2
    refine ipl_nil ?_
    refine iqw_asg hrk41 (fun w49 hm48 => ?_)
    replace hE := hm48.ext hE (Nat.le_trans hs3 (Nat.le_trans hs7 (Nat.le_trans hs11 (Nat.le_trans hs17 (Nat.le_trans hs21 (Nat.le_trans hs24 hs35))))))
    replace bO1_0 := hm48.box bO1_0
    replace bO1_1 := hm48.box bO1_1
    replace bO1_2 := hm48.box bO1_2
    replace bO1_3 := hm48.box bO1_3
    replace bO1_4 := hm48.box bO1_4
    replace bO1_5 := hm48.box bO1_5
    replace bO1_6 := hm48.box bO1_6
    replace bO5_0 := hm48.box bO5_0
    replace bO5_1 := hm48.box bO5_1
    replace bO9_0 := hm48.box bO9_0
    replace bO19_0 := hm48.box bO19_0
    replace hr9 := hm48.rows hr9
    replace bO42_0 := hm48.box bO42_0
    replace bO42_1 := hm48.box bO42_1
    replace bO42_2 := hm48.box bO42_2
    have hs50 := hm48.size
    have hrk51 : RK w34.heap.size (fun k => k = B13) w49 w49 := RK.refl _ _ _
    refine icw_block ?_
    have hcy := Orb.cy_lt hok (s.1 + ((i : Nat) : Int) - d)
    have hcx := Swath.sx_lt o lk (s.1 + ((i : Nat) : Int) - d)
    have hvs := Swath.show_valid hok lk (s.1 - d) i
    have hv9 := hr9.va hvs
    have hrl := Globe.rowN_lt hvs (Orb.cy o (s.1 + ((i : Nat) : Int) - d))
    refine icw_draw [(some 18, [9], []), (some 19, [18], [0]), (some 20, [10], []), (some 21, [20], [2]), (some 22, [21], [3]), (some 23, [19, 22], [1, 4]), (some 24, [23], [5]), (some 25, [10], []), (some 26, [25], [7]), (some 27, [26], [8]), (some 28, [27], [9]), (some 29, [24, 28], [6, 10]), (some 30, [19, 22], [1, 4, 0, 1, 2, 3, 4, 5, 6, 7, 8, 9, 10, 11]), (none, [30, 29], [12, 11, 0, 1, 2, 3, 4, 5, 6, 7, 8, 9, 10, 11])] (fun w' => w'.cell? ⟨O19, 0, none⟩ = some (.slice (some ⟨B13, 0, none⟩) 24 24) ∧ w'.cell? ⟨O42, 1, none⟩ = some (.int .i64 (((Orb.cy o (s.1 + ((i : Nat) : Int) - d) : Nat) : Int) : Int)) ∧ w'.cell? ⟨O42, 0, none⟩ = some (.int .i64 (((Swath.sx o lk (s.1 + ((i : Nat) : Int) - d) : Nat) : Int) : Int))) (by kernel_rfl) (by kernel_rfl) (by kernel_rfl) (by kernel_rfl) ((calm_block calm_rnd)) (⟨bO19_0.1, bO42_1.1, bO42_0.1⟩) (fun ops Q X52 hb hL hR hK => ?_)
    replace hE := hE.trans hb
    replace bO1_0 := BoxAt.ext hb bO1_0
    replace bO1_1 := BoxAt.ext hb bO1_1
    replace bO1_2 := BoxAt.ext hb bO1_2
    replace bO1_3 := BoxAt.ext hb bO1_3
    replace bO1_4 := BoxAt.ext hb bO1_4
    replace bO1_5 := BoxAt.ext hb bO1_5
    replace bO1_6 := BoxAt.ext hb bO1_6
    replace bO5_0 := BoxAt.ext hb bO5_0
    replace bO5_1 := BoxAt.ext hb bO5_1
    replace bO9_0 := BoxAt.ext hb bO9_0
    replace bO19_0 := BoxAt.ext hb bO19_0
    replace hr9 := hr9.ext hb
    replace bO42_0 := BoxAt.ext hb bO42_0
    replace bO42_1 := BoxAt.ext hb bO42_1
    replace bO42_2 := BoxAt.ext hb bO42_2
    replace hrk51 := hrk51.ext hb
    replace hv9 := hv9.ext hb
    have hs53 := hb.size
    clear hb
    refine iwd_take 0 (.pointer (some ⟨O19, 0, none⟩)) hR rfl (by kernel_rfl) rfl (by kernel_rfl) (fun w _ => by kernel_rfl) (⟨bO19_0.1, bO42_1.1, bO42_0.1⟩) ?_
    refine iwd_take 1 (.slice (some ⟨B13, 0, none⟩) 24 24) hR rfl (by kernel_rfl) rfl (by kernel_rfl) (fun w hS => ex_load rfl (by kernel_rfl) (ld24 (hS.1))) (⟨bO19_0.1, bO42_1.1, bO42_0.1⟩) ?_
    refine iwd_take 2 (.pointer (some ⟨O42, 0, none⟩)) hR rfl (by kernel_rfl) rfl (by kernel_rfl) (fun w _ => by kernel_rfl) (⟨bO19_0.1, bO42_1.1, bO42_0.1⟩) ?_
    refine iwd_take 3 (.pointer (some ⟨O42, 1, none⟩)) hR rfl (by kernel_rfl) rfl (by kernel_rfl) (fun w _ => by kernel_rfl) (⟨bO19_0.1, bO42_1.1, bO42_0.1⟩) ?_
    refine iwd_take 4 (.int .i64 (((Orb.cy o (s.1 + ((i : Nat) : Int) - d) : Nat) : Int) : Int)) hR rfl (by kernel_rfl) rfl (by kernel_rfl) (fun w hS => ex_load rfl (by kernel_rfl) (ld3 (hS.2.1))) (⟨bO19_0.1, bO42_1.1, bO42_0.1⟩) ?_
    refine iwd_take 5 (.pointer (some ⟨B13, Orb.cy o (s.1 + ((i : Nat) : Int) - d), none⟩)) hR rfl (by kernel_rfl) rfl (by kernel_rfl) (fun w _ => ex_index (p := .slice (some ⟨B13, 0, none⟩) 24 24) (i := .int .i64 ((Orb.cy o (s.1 + ((i : Nat) : Int) - d) : Nat) : Int)) rfl (by kernel_rfl) (by kernel_rfl) (ix24z (k := Orb.cy o (s.1 + ((i : Nat) : Int) - d)) (by omega))) (⟨bO19_0.1, bO42_1.1, bO42_0.1⟩) ?_
    refine iwd_take 7 (.pointer (some ⟨O42, 0, none⟩)) hR rfl (by kernel_rfl) rfl (by kernel_rfl) (fun w _ => by kernel_rfl) (⟨bO19_0.1, bO42_1.1, bO42_0.1⟩) ?_
    refine iwd_take 8 (.pointer (some ⟨O42, 0, none⟩)) hR rfl (by kernel_rfl) rfl (by kernel_rfl) (fun w _ => by kernel_rfl) (⟨bO19_0.1, bO42_1.1, bO42_0.1⟩) ?_
    refine iwd_take 9 (.int .i64 (((Swath.sx o lk (s.1 + ((i : Nat) : Int) - d) : Nat) : Int) : Int)) hR rfl (by kernel_rfl) rfl (by kernel_rfl) (fun w hS => ex_load rfl (by kernel_rfl) (ld3 (hS.2.2))) (⟨bO19_0.1, bO42_1.1, bO42_0.1⟩) ?_
    refine iwd_take 10 (.int .i64 (((2 ^ (Swath.sx o lk (s.1 + ((i : Nat) : Int) - d)) : Nat) : Int) : Int)) hR rfl (by kernel_rfl) rfl (by kernel_rfl) (fun w _ => ex_bin rfl (by kernel_rfl) (by kernel_rfl) (bin_shl1 (by omega))) (⟨bO19_0.1, bO42_1.1, bO42_0.1⟩) ?_
    refine iwd_step 6 hR rfl (by kernel_rfl) (by kernel_rfl) (by kernel_rfl) (sn_eff (v := .int .i64 (((Globe.rowN (Swath.showL o lk (s.1 - d) i) (Orb.cy o (s.1 + ((i : Nat) : Int) - d)) : Nat) : Int) : Int)) (w' := X52) (ex_load rfl (by kernel_rfl) (ld3 (hv9.cell0 (y := Orb.cy o (s.1 + ((i : Nat) : Int) - d)) (by omega)))) ⟨⟨bO19_0.1, bO42_1.1, bO42_0.1⟩, ?_⟩)
    refine iwd_take 11 (.int .i64 ((((Globe.rowN (Swath.showL o lk (s.1 - d) i) (Orb.cy o (s.1 + ((i : Nat) : Int) - d))) ||| (2 ^ Swath.sx o lk (s.1 + ((i : Nat) : Int) - d)) : Nat) : Int) : Int)) hR rfl (by kernel_rfl) rfl (by kernel_rfl) (fun w _ => ev_int (show _ = Result.ok (Next.value (Value.int .i64 (bits .or .i64 ((Globe.rowN (Swath.showL o lk (s.1 - d) i) (Orb.cy o (s.1 + ((i : Nat) : Int) - d)) : Nat) : Int) ((2 ^ Swath.sx o lk (s.1 + ((i : Nat) : Int) - d) : Nat) : Int)))) _ from by kernel_rfl) (or_i64 _ _ (by omega) (by have : 2 ^ Swath.sx o lk (s.1 + ((i : Nat) : Int) - d) < 2 ^ 48 := Nat.pow_lt_pow_right (by decide) hcx; omega))) (⟨bO19_0.1, bO42_1.1, bO42_0.1⟩) ?_
    refine iwd_take 12 (.pointer (some ⟨B13, Orb.cy o (s.1 + ((i : Nat) : Int) - d), none⟩)) hR rfl (by kernel_rfl) rfl (by kernel_rfl) (fun w _ => ex_index (p := .slice (some ⟨B13, 0, none⟩) 24 24) (i := .int .i64 ((Orb.cy o (s.1 + ((i : Nat) : Int) - d) : Nat) : Int)) rfl (by kernel_rfl) (by kernel_rfl) (ix24z (k := Orb.cy o (s.1 + ((i : Nat) : Int) - d)) (by omega))) (⟨bO19_0.1, bO42_1.1, bO42_0.1⟩) ?_
    refine iwd_step 13 hR rfl (by kernel_rfl) (by kernel_rfl) (by kernel_rfl) (sn_row (g := B13) (y := Orb.cy o (s.1 + ((i : Nat) : Int) - d)) (v := (((Globe.rowN (Swath.showL o lk (s.1 - d) i) (Orb.cy o (s.1 + ((i : Nat) : Int) - d))) ||| (2 ^ Swath.sx o lk (s.1 + ((i : Nat) : Int) - d)) : Nat) : Int)) (ex_store (p := .pointer (some ⟨B13, Orb.cy o (s.1 + ((i : Nat) : Int) - d), none⟩)) (v := .int .i64 ((((Globe.rowN (Swath.showL o lk (s.1 - d) i) (Orb.cy o (s.1 + ((i : Nat) : Int) - d))) ||| (2 ^ Swath.sx o lk (s.1 + ((i : Nat) : Int) - d)) : Nat) : Int) : Int)) rfl (by kernel_rfl) (by kernel_rfl) (st3 (hr9.cell (by omega)) (hr9.free (by omega)))) hr9 (by omega) ?_)
    intro X54 ho hv0
    replace hE := ho.ext hE (Nat.le_trans (Nat.le_trans hs3 (Nat.le_trans hs7 hs11)) hn14)
    replace bO1_0 := ho.box (Nat.ne_of_gt (Nat.lt_of_lt_of_le lt4 (Nat.le_trans (Nat.le_trans hs7 hs11) hn14))) bO1_0
    replace bO1_1 := ho.box (Nat.ne_of_gt (Nat.lt_of_lt_of_le lt4 (Nat.le_trans (Nat.le_trans hs7 hs11) hn14))) bO1_1
    replace bO1_2 := ho.box (Nat.ne_of_gt (Nat.lt_of_lt_of_le lt4 (Nat.le_trans (Nat.le_trans hs7 hs11) hn14))) bO1_2
    replace bO1_3 := ho.box (Nat.ne_of_gt (Nat.lt_of_lt_of_le lt4 (Nat.le_trans (Nat.le_trans hs7 hs11) hn14))) bO1_3
    replace bO1_4 := ho.box (Nat.ne_of_gt (Nat.lt_of_lt_of_le lt4 (Nat.le_trans (Nat.le_trans hs7 hs11) hn14))) bO1_4
    replace bO1_5 := ho.box (Nat.ne_of_gt (Nat.lt_of_lt_of_le lt4 (Nat.le_trans (Nat.le_trans hs7 hs11) hn14))) bO1_5
    replace bO1_6 := ho.box (Nat.ne_of_gt (Nat.lt_of_lt_of_le lt4 (Nat.le_trans (Nat.le_trans hs7 hs11) hn14))) bO1_6
    replace bO5_0 := ho.box (Nat.ne_of_gt (Nat.lt_of_lt_of_le lt8 (Nat.le_trans hs11 hn14))) bO5_0
    replace bO5_1 := ho.box (Nat.ne_of_gt (Nat.lt_of_lt_of_le lt8 (Nat.le_trans hs11 hn14))) bO5_1
    replace bO9_0 := ho.box (Nat.ne_of_gt (Nat.lt_of_lt_of_le lt12 hn14)) bO9_0
    replace bO19_0 := ho.box (Nat.ne_of_lt (Nat.lt_of_lt_of_le lt18 (Nat.le_of_eq hzO19))) bO19_0
    replace bO42_0 := ho.box (Nat.ne_of_lt (Nat.lt_of_lt_of_le lt18 (Nat.le_trans (Nat.le_trans hs21 (Nat.le_trans hs24 (Nat.le_trans hs35 hs38))) (Nat.le_of_eq hzO42)))) bO42_0
    replace bO42_1 := ho.box (Nat.ne_of_lt (Nat.lt_of_lt_of_le lt18 (Nat.le_trans (Nat.le_trans hs21 (Nat.le_trans hs24 (Nat.le_trans hs35 hs38))) (Nat.le_of_eq hzO42)))) bO42_1
    replace bO42_2 := ho.box (Nat.ne_of_lt (Nat.lt_of_lt_of_le lt18 (Nat.le_trans (Nat.le_trans hs21 (Nat.le_trans hs24 (Nat.le_trans hs35 hs38))) (Nat.le_of_eq hzO42)))) bO42_2
    replace hrk51 := hrk51.turn ho (.inl (rfl))
    have hs55 : X52.heap.size ≤ X54.heap.size := Nat.le_of_eq ho.size.symm
    clear ho hr9; have hr9 := hv0; clear hv0
    refine ⟨⟨bO19_0.1, bO42_1.1, bO42_0.1⟩, ?_⟩
    refine iwd_end hL hR hK (by kernel_rfl) ?_
    refine iqw_block ?_
    exact iqw_next hrk51 ⟨(Nat.le_trans hs38 (Nat.le_trans hs44 (Nat.le_trans hs47 (Nat.le_trans hs50 (Nat.le_trans hs53 hs55))))), hE, bO1_0, bO1_1, bO1_2, bO1_3, bO1_4, bO1_5, bO1_6, bO5_0, bO5_1, bO9_0, bO19_0, (show_next hr9)⟩
  ·
    clear bO1_0 bO1_1 bO1_2 bO1_3 bO1_4 bO1_5 bO1_6 bO5_0 bO5_1 bO9_0 hr15 bO19_0 hE
    intro D56 w57 hD60 hDl61 h hmk59
    obtain ⟨hs58, hE, bO1_0, bO1_1, bO1_2, bO1_3, bO1_4, bO1_5, bO1_6, bO5_0, bO5_1, bO9_0, bO19_0, hr9⟩ := h
    refine iqw_block ?_
    refine iqw_then ?_
    refine icw_seq ?_
    refine icw_plain ?_
    refine ipl_take (.agg #[.slice (some ⟨B13, 0, none⟩) 24 24]) rfl (by kernel_rfl) (by kernel_rfl) (by kernel_rfl) (ex_load rfl (by kernel_rfl) (ld33 (bO19_0.1))) ?_
    refine ipl_put rfl (by kernel_rfl) (by kernel_rfl) (sn_set (O := O9) (j := 0) (v := .slice (some ⟨B13, 0, none⟩) 24 24) (ex_store (p := .pointer (some ⟨O9, 0, none⟩)) (v := .agg #[.slice (some ⟨B13, 0, none⟩) 24 24]) rfl (by kernel_rfl) (by kernel_rfl) (st33 bO9_0.1 bO9_0.2)) bO9_0 ?_)
    intro X62 ho hv0 hk
    replace hE := ho.ext hE (Nat.le_trans (Nat.le_trans hs3 hs7) (Nat.le_of_eq hzO9))
    replace bO1_0 := ho.box (Nat.ne_of_gt (Nat.lt_of_lt_of_le lt4 (Nat.le_trans hs7 (Nat.le_of_eq hzO9)))) bO1_0
    replace bO1_1 := ho.box (Nat.ne_of_gt (Nat.lt_of_lt_of_le lt4 (Nat.le_trans hs7 (Nat.le_of_eq hzO9)))) bO1_1
    replace bO1_2 := ho.box (Nat.ne_of_gt (Nat.lt_of_lt_of_le lt4 (Nat.le_trans hs7 (Nat.le_of_eq hzO9)))) bO1_2
    replace bO1_3 := ho.box (Nat.ne_of_gt (Nat.lt_of_lt_of_le lt4 (Nat.le_trans hs7 (Nat.le_of_eq hzO9)))) bO1_3
    replace bO1_4 := ho.box (Nat.ne_of_gt (Nat.lt_of_lt_of_le lt4 (Nat.le_trans hs7 (Nat.le_of_eq hzO9)))) bO1_4
    replace bO1_5 := ho.box (Nat.ne_of_gt (Nat.lt_of_lt_of_le lt4 (Nat.le_trans hs7 (Nat.le_of_eq hzO9)))) bO1_5
    replace bO1_6 := ho.box (Nat.ne_of_gt (Nat.lt_of_lt_of_le lt4 (Nat.le_trans hs7 (Nat.le_of_eq hzO9)))) bO1_6
    replace bO5_0 := ho.box (Nat.ne_of_gt (Nat.lt_of_lt_of_le lt8 (Nat.le_of_eq hzO9))) bO5_0
    replace bO5_1 := ho.box (Nat.ne_of_gt (Nat.lt_of_lt_of_le lt8 (Nat.le_of_eq hzO9))) bO5_1
    replace bO19_0 := ho.box (Nat.ne_of_lt (Nat.lt_of_lt_of_le lt12 (Nat.le_trans hs17 (Nat.le_of_eq hzO19)))) bO19_0
    replace hr9 := ho.rows (Nat.ne_of_lt (Nat.lt_of_lt_of_le lt12 hn14)) hr9
    replace hmk59 := mk_turn hmk59 ho
    have hs63 : w57.heap.size ≤ X62.heap.size := Nat.le_of_eq ho.size.symm
    clear ho hk bO9_0
    have bO9_0 := hv0; clear hv0
    refine ipl_nil ?_
    refine iqw_then ?_
    refine icw_clean [8] (ws' := [(8, .pointer (some ⟨O9, 0, none⟩))]) (by kernel_rfl) (fun L => ?_)
    refine icw_ret ?_
    refine iqw_ret w.heap.size [.agg #[.slice (some ⟨B13, 0, none⟩) 24 24]] rfl (marksC (Nat.le_trans (Nat.le_trans hs3 (Nat.le_trans hs7 (Nat.le_trans hs11 (Nat.le_trans hs17 (Nat.le_trans hs21 (Nat.le_trans hs24 hs35)))))) hD60) hmk59 (fun _ h => by cases h)) (by simp) (fun W9 hm9 => ?_)
    replace hE := hm9.ext hE (Nat.le_refl _)
    replace bO1_0 := hm9.box bO1_0
    replace bO1_1 := hm9.box bO1_1
    replace bO1_2 := hm9.box bO1_2
    replace bO1_3 := hm9.box bO1_3
    replace bO1_4 := hm9.box bO1_4
    replace bO1_5 := hm9.box bO1_5
    replace bO1_6 := hm9.box bO1_6
    replace bO5_0 := hm9.box bO5_0
    replace bO5_1 := hm9.box bO5_1
    replace bO19_0 := hm9.box bO19_0
    replace hr9 := hm9.rows hr9
    replace bO9_0 := hm9.box bO9_0
    have hs64 := hm9.size
    refine ⟨⟨⟨_, by kernel_rfl, res_ld (ld33 (bO9_0.1))⟩, trivial⟩, ?_⟩
    exact ⟨B13, rfl, (Nat.le_trans (Nat.le_trans hs3 (Nat.le_trans hs7 hs11)) hn14), hr9, hE⟩
  · intro _ _ _ _ _ _ _ h _; exact h.elim

end Go.Proofs.YtajdohcgjgknmaaGreatDoor

namespace Go.Proofs.YtajdohcgjgknmaaGreatDoor
open Go.RowKit
theorem intT9 : ElemT Tryz.prog 24 3 (.int .i64 0) 1 8 := ⟨Tryz.underlying24, by kernel_rfl, rfl, by decide⟩
theorem rows_own9 {w : World} {base : Nat} {v : Value} {L : List Int} (hL : L.length = 24) (h : w.ownsRow base 3 1 v 24 (intVals L)) : ∃ g k, v = .slice (some ⟨g, 0, none⟩) 24 k ∧ base ≤ g ∧ RowsAt w g L := by
  rcases h.2 with ⟨_, h0⟩ | ⟨g, cap, cur, rfl, hb, _, _⟩
  · omega
  · refine ⟨g, cap, rfl, hb, hL, fun i hi => ?_, fun i hi => h.frozenAt i⟩
    rw [h.cellAt i (by omega)]
    simp [intVals, Globe.nth, show i < L.length by omega]
theorem app_rows9 {w : World} {O b o c : Nat} {ty : TypeId} {L : List Int} (hO : w.heap[O]? = some (.cells #[] 3 (0, 0))) (h : VA w b o L) :
  ∃ g cap w', (Builtin.append_ #[24, 24] ty #[.slice (some ⟨O, 0, none⟩) 0 0, .slice (some ⟨b, o, none⟩) 24 c]).run Tryz.prog w = .ok (.slice (some ⟨g, 0, none⟩) 24 cap) w' ∧ RowsAt w' g L ∧ O ≤ g ∧ Grew O w w' := by
 have hOl : O < w.heap.size := by
  rcases Nat.lt_or_ge O w.heap.size with q | q
  · exact q
  · rw [Array.getElem?_eq_none q] at hO; cases hO
 obtain ⟨i, hi, hz0, hz1, hz2⟩ := info_parts intT9.info
 have hl := h.len
 have hx : ∀ j u, (intVals L)[j]? = some u → w.cell? ((⟨b, o, none⟩ : Addr).add j) = some u := fun j u hj => by
  have hjl : j < L.length := by rw [← List.length_map (f := Value.int .i64)]; exact (List.getElem?_eq_some_iff.1 hj).1
  have e := intVals_at hjl
  rw [List.getElem?_toArray, hj] at e
  cases e
  rw [Addr.add_mid]; exact h.1 j (by omega)
 obtain ⟨v', w', hrun, hown, hg, _, _⟩ := run_append_own_at (P := Tryz.prog) w O 24 ty 3 i (.int .i64 0) 1 8 intT9.under hi hz0 hz1 hz2 rfl (by decide) (.slice (some ⟨O, 0, none⟩) 0 0) 0 [] (own_empty hO (Nat.le_refl _)) ⟨b, o, none⟩ 24 c (intVals L) (by simp [intVals, hl]) hx
  (by simp [intVals, Value.oneCell']) (by unfold maxLen; omega) (by omega) (by omega)
 have hown2 : w'.ownsRow O 3 1 v' 24 (intVals L) := by simpa using hown
 obtain ⟨g, k, rfl, hgO, hr⟩ := rows_own9 hl hown2
 exact ⟨g, k, w', hrun, hr, hgO, ⟨hg.size, fun U hU hUn => Ext.own' hU (own_empty (size := 1) hO (Nat.le_refl _)) hUn hg⟩⟩
end Go.Proofs.YtajdohcgjgknmaaGreatDoor

/- Contracts of package swath: the closures of Strip. -/
namespace Go.Proofs.YtajdohcgjgknmaaGreatDoor
open Go.RowKit

def RetSt (w : World) (L1 L2 : List Int) (e : Ending) (w' : World) : Prop :=
  ∃ B g c1 c2 : Nat, e = .returned (.agg #[.slice (some ⟨B, 0, none⟩) 24 c1, .slice (some ⟨g, 0, none⟩) 24 c2]) ∧ w.heap.size ≤ B ∧ w.heap.size ≤ g ∧ B ≠ g ∧ RowsAt w' B L1 ∧ RowsAt w' g L2 ∧ Ext w w'
def StAt (w : World) (Bo Bs Bl : Nat) (o : Orb) (s : Int × Int) (lk : Int) : Prop :=
  (w.cell? ⟨Bo, 0, none⟩ = some (.int .i64 o.p) ∧ w.cell? ⟨Bo, 1, none⟩ = some (.int .i64 o.f) ∧ w.cell? ⟨Bo, 2, none⟩ = some (.int .i64 o.lo) ∧ w.cell? ⟨Bo, 3, none⟩ = some (.int .i64 o.hi) ∧ w.cell? ⟨Bo, 4, none⟩ = some (.int .i64 o.nd) ∧ w.cell? ⟨Bo, 5, none⟩ = some (.int .i64 o.tn) ∧ w.cell? ⟨Bo, 6, none⟩ = some (.int .i64 o.sl)) ∧
  w.cell? ⟨Bs, 0, none⟩ = some (.int .i64 s.1) ∧ w.cell? ⟨Bs, 1, none⟩ = some (.int .i64 s.2) ∧ w.cell? ⟨Bl, 0, none⟩ = some (.int .i64 lk)
set_option maxRecDepth 1000000 in
set_option maxHeartbeats 4000000 in
theorem value_c {w0 : World} {Bo Bs Bl : Nat} {o : Orb} {s : Int × Int} {lk : Int} (d : Int) (w : World) (hS : StAt w0 Bo Bs Bl o s lk) (e0 : Ext w0 w) (hv : Swath.shB o s lk = true) (hd9 : Globe.inB d (-o.sl) o.sl = true) : Calls Tryz.prog 41 #[.int .i64 d, .pointer (some ⟨Bo, 0, none⟩), .pointer (some ⟨Bs, 0, none⟩), .pointer (some ⟨Bl, 0, none⟩)] w (RetSt w (Swath.showL o lk (s.1 - d) (s.2 - s.1).toNat) (Swath.showL o lk (s.1 - d) (s.2 - s.1).toNat)) := by
  obtain ⟨⟨o0, o1, o2, o3, o4, o5, o6⟩, a0, a1, l0⟩ := hS
  replace o0 := e0.cell o0
  replace o1 := e0.cell o1
  replace o2 := e0.cell o2
  replace o3 := e0.cell o3
  replace o4 := e0.cell o4
  replace o5 := e0.cell o5
  replace o6 := e0.cell o6
  replace a0 := e0.cell a0
  replace a1 := e0.cell a1
  replace l0 := e0.cell l0
  refine calls_cw 19 [(3, .pointer (some ⟨Bl, 0, none⟩)), (2, .pointer (some ⟨Bs, 0, none⟩)), (1, .pointer (some ⟨Bo, 0, none⟩)), (0, .int .i64 (d : Int))] Tryz.func41 rfl Tryz.ntmps41 (by kernel_rfl) (by kernel_rfl) (fun L => ?_)
  have hE : Ext w w := Ext.refl w
  refine cw_seq ?_
  refine cw_plain ?_
  refine pl_step rfl (by kernel_rfl) (by kernel_rfl) (by kernel_rfl) (sn_new (us := #[.slice none 0 0, .slice none 0 0]) (t := 40) (by kernel_rfl) ?_)
  intro O1 X2 hO hOs hb hbx
  have hzO1 := hO; have hyO1 := hOs; clear hO hOs
  have bO1_0 : BoxAt X2 O1 0 (.slice none 0 0) := hbx 0 _ rfl
  have bO1_1 : BoxAt X2 O1 1 (.slice none 0 0) := hbx 1 _ rfl
  clear hbx
  replace hE := hE.trans hb
  have hs3 := hb.size
  clear hb
  have lt4 := bO1_0.lt
  refine pl_nil ?_
  refine qw_then ?_
  refine cw_seq ?_
  refine cw_plain ?_
  refine pl_take (.agg #[.int .i64 (o.p : Int), .int .i64 (o.f : Int), .int .i64 (o.lo : Int), .int .i64 (o.hi : Int), .int .i64 (o.nd : Int), .int .i64 (o.tn : Int), .int .i64 (o.sl : Int)]) rfl (by kernel_rfl) (by kernel_rfl) (by kernel_rfl) (ex_load rfl (by kernel_rfl) (ld26 ((hE.cell o0)) ((hE.cell o1)) ((hE.cell o2)) ((hE.cell o3)) ((hE.cell o4)) ((hE.cell o5)) ((hE.cell o6)))) ?_
  refine pl_take (.agg #[.int .i64 (s.1 : Int), .int .i64 (s.2 : Int)]) rfl (by kernel_rfl) (by kernel_rfl) (by kernel_rfl) (ex_load rfl (by kernel_rfl) (ld38 ((hE.cell a0)) ((hE.cell a1)))) ?_
  refine pl_take (.int .i64 (lk : Int)) rfl (by kernel_rfl) (by kernel_rfl) (by kernel_rfl) (ex_load rfl (by kernel_rfl) (ld3 ((hE.cell l0)))) ?_
  refine pl_take (.int .i64 (d : Int)) rfl (by kernel_rfl) (by kernel_rfl) (by kernel_rfl) (by kernel_rfl) ?_
  refine pl_step rfl (by kernel_rfl) (by kernel_rfl) (by kernel_rfl) (sn_call (f := 42) (args := #[.agg #[.int .i64 (o.p : Int), .int .i64 (o.f : Int), .int .i64 (o.lo : Int), .int .i64 (o.hi : Int), .int .i64 (o.nd : Int), .int .i64 (o.tn : Int), .int .i64 (o.sl : Int)], .agg #[.int .i64 (s.1 : Int), .int .i64 (s.2 : Int)], .int .i64 (lk : Int), .int .i64 (d : Int)]) (by kernel_rfl) ((area_c o s lk d _ hv hd9).mono ?_))
  rintro e w8 ⟨B5, rfl, hn6, hr7, hb⟩
  replace hE := hE.trans hb
  replace bO1_0 := BoxAt.ext hb bO1_0
  replace bO1_1 := BoxAt.ext hb bO1_1
  have hs9 := hb.size
  clear hb
  have lt10 := hr7.lt
  refine ⟨_, rfl, ?_⟩
  refine pl_step rfl (by kernel_rfl) (by kernel_rfl) (by kernel_rfl) (sn_new (us := #[.slice none 0 0]) (t := 33) (by kernel_rfl) ?_)
  intro O11 X12 hO hOs hb hbx
  have hzO11 := hO; have hyO11 := hOs; clear hO hOs
  have bO11_0 : BoxAt X12 O11 0 (.slice none 0 0) := hbx 0 _ rfl
  clear hbx
  replace hE := hE.trans hb
  replace bO1_0 := BoxAt.ext hb bO1_0
  replace bO1_1 := BoxAt.ext hb bO1_1
  replace hr7 := hr7.ext hb
  have hs13 := hb.size
  clear hb
  have lt14 := bO11_0.lt
  refine pl_put rfl (by kernel_rfl) (by kernel_rfl) (sn_set (O := O11) (j := 0) (v := .slice (some ⟨B5, 0, none⟩) 24 24) (ex_store (p := .pointer (some ⟨O11, 0, none⟩)) (v := .agg #[.slice (some ⟨B5, 0, none⟩) 24 24]) rfl (by kernel_rfl) (by kernel_rfl) (st33 bO11_0.1 bO11_0.2)) bO11_0 ?_)
  intro X15 ho hv0 hk
  replace hE := ho.ext hE (Nat.le_trans (Nat.le_trans hs3 hs9) (Nat.le_of_eq hzO11))
  replace bO1_0 := ho.box (Nat.ne_of_gt (Nat.lt_of_lt_of_le lt4 (Nat.le_trans hs9 (Nat.le_of_eq hzO11)))) bO1_0
  replace bO1_1 := ho.box (Nat.ne_of_gt (Nat.lt_of_lt_of_le lt4 (Nat.le_trans hs9 (Nat.le_of_eq hzO11)))) bO1_1
  replace hr7 := ho.rows (Nat.ne_of_gt (Nat.lt_of_lt_of_le lt10 (Nat.le_of_eq hzO11))) hr7
  have hs16 : X12.heap.size ≤ X15.heap.size := Nat.le_of_eq ho.size.symm
  clear ho hk bO11_0
  have bO11_0 := hv0; clear hv0
  refine pl_nil ?_
  refine qw_then ?_
  refine cw_seq ?_
  have hva := hr7.va (Swath.show_valid (Swath.shB_t.1 hv).1 lk (s.1 - d) (s.2 - s.1).toNat)
  have hX17 : Ext X15 X15 := Ext.refl _
  refine cw_draw [(some 12, [6], []), (some 13, [], []), (some 14, [6], []), (some 15, [14], [2]), (some 16, [13, 15], [1, 3]), (some 17, [16], [4]), (some 18, [12, 17], [0, 5]), (none, [5, 18], [6, 4, 0, 1, 2, 3, 4, 5, 6])] (fun w' => w'.cell? ⟨O11, 0, none⟩ = some (.slice (some ⟨B5, 0, none⟩) 24 24)) (by kernel_rfl) (by kernel_rfl) (by kernel_rfl) (by kernel_rfl) ((calm_then calm_body)) (bO11_0.1) (fun ops Q X18 hb hL hR hK => ?_)
  replace hE := hE.trans hb
  replace hX17 := hX17.trans hb
  have hs19 := hb.size
  clear hb
  have hS20 := (BoxAt.ext hX17 bO11_0).1
  refine wd_take 0 (.agg #[.slice (some ⟨B5, 0, none⟩) 24 24]) hR rfl (by kernel_rfl) rfl (by kernel_rfl) (fun w hS => ex_load rfl (by kernel_rfl) (ld33 (hS))) (hS20) ?_
  refine wd_take 2 (.pointer (some ⟨O11, 0, none⟩)) hR rfl (by kernel_rfl) rfl (by kernel_rfl) (fun w _ => by kernel_rfl) (hS20) ?_
  refine wd_take 3 (.slice (some ⟨B5, 0, none⟩) 24 24) hR rfl (by kernel_rfl) rfl (by kernel_rfl) (fun w hS => ex_load rfl (by kernel_rfl) (ld24 (hS))) (hS20) ?_
  refine wd_step 1 hR rfl (by kernel_rfl) (by kernel_rfl) (by kernel_rfl) (sn_newS0 (t := 3) (by kernel_rfl) ?_)
  intro O21 X22 hO hOs hb hpO21
  have hzO21 := hO; have hyO21 : O21 < X22.heap.size := (by omega); clear hO hOs
  replace hE := hE.trans hb
  replace hX17 := hX17.trans hb
  have hs23 := hb.size
  clear hb
  have hS24 := (BoxAt.ext hX17 bO11_0).1
  refine ⟨hS24, ?_⟩
  obtain ⟨g25, cap26, w27, hrun28, hrow29, hge30, hgr31⟩ := app_rows9 (ty := 24) (c := 24) hpO21 (hva.ext hX17)
  refine wd_step 4 hR rfl (by kernel_rfl) (by kernel_rfl) (by kernel_rfl) (sn_eff (v := .slice (some ⟨g25, 0, none⟩) 24 cap26) (w' := w27) (ex_append rfl (by kernel_rfl) (by kernel_rfl) hrun28) ?_)
  replace hE := hgr31.ext _ hE (Nat.le_trans (Nat.le_trans hs3 (Nat.le_trans hs9 (Nat.le_trans hs13 (Nat.le_trans hs16 hs19)))) (Nat.le_of_eq hzO21))
  replace hX17 := hgr31.ext _ hX17 (Nat.le_trans hs19 (Nat.le_of_eq hzO21))
  have hs32 := hgr31.size
  have lt33 := hrow29.lt
  have hS34 := (BoxAt.ext hX17 bO11_0).1
  refine ⟨hS34, ?_⟩
  refine wd_take 5 (.agg #[.slice (some ⟨g25, 0, none⟩) 24 cap26]) hR rfl (by kernel_rfl) rfl (by kernel_rfl) (fun w _ => by kernel_rfl) (hS34) ?_
  refine wd_take 6 (.agg #[.slice (some ⟨B5, 0, none⟩) 24 24, .slice (some ⟨g25, 0, none⟩) 24 cap26]) hR rfl (by kernel_rfl) rfl (by kernel_rfl) (fun w _ => by kernel_rfl) (hS34) ?_
  have bO1_t36 := (BoxAt.ext hX17 bO1_0)
  have bO1_t37 := (BoxAt.ext hX17 bO1_1)
  have hrt38 := (hr7.ext hX17)
  have bO11_t39 := (BoxAt.ext hX17 bO11_0)
  have hvat40 := (hva.ext hX17)
  refine wd_step 7 hR rfl (by kernel_rfl) (by kernel_rfl) (by kernel_rfl) (sn_set2 (O := O1) (j := 0) (v := .slice (some ⟨B5, 0, none⟩) 24 24) (v' := .slice (some ⟨g25, 0, none⟩) 24 cap26) (ex_store (p := .pointer (some ⟨O1, 0, none⟩)) (v := .agg #[.slice (some ⟨B5, 0, none⟩) 24 24, .slice (some ⟨g25, 0, none⟩) 24 cap26]) rfl (by kernel_rfl) (by kernel_rfl) (st40 bO1_t36.1 bO1_t36.2 bO1_t37.1 bO1_t37.2)) bO1_t36 bO1_t37 ?_)
  intro X35 ho hv0 hv1 hk
  replace hE := ho.ext hE (Nat.le_of_eq hzO1)
  replace hrt38 := ho.rows (Nat.ne_of_lt (Nat.lt_of_lt_of_le lt4 hn6)) hrt38
  replace bO11_t39 := ho.box (Nat.ne_of_lt (Nat.lt_of_lt_of_le lt4 (Nat.le_trans hs9 (Nat.le_of_eq hzO11)))) bO11_t39
  replace hvat40 := ho.va (Nat.ne_of_lt (Nat.lt_of_lt_of_le lt4 hn6)) hvat40
  replace hrow29 := ho.rows (Nat.ne_of_lt (Nat.lt_of_lt_of_le lt4 (Nat.le_trans (Nat.le_trans hs9 (Nat.le_trans hs13 (Nat.le_trans hs16 hs19))) (Nat.le_trans (Nat.le_of_eq hzO21) hge30)))) hrow29
  have hs41 : w27.heap.size ≤ X35.heap.size := Nat.le_of_eq ho.size.symm
  clear ho hk bO1_t36 bO1_t37
  have bO1_t36 := hv0; clear hv0
  have bO1_t37 := hv1; clear hv1
  refine ⟨bO11_t39.1, ?_⟩
  refine wd_end hL hR hK (by kernel_rfl) ?_
  refine qw_then ?_
  refine cw_clean [5] (ws' := [(5, .pointer (some ⟨O1, 0, none⟩))]) (by kernel_rfl) (fun L => ?_)
  refine cw_ret ?_
  refine qw_ret [.agg #[.slice (some ⟨B5, 0, none⟩) 24 24, .slice (some ⟨g25, 0, none⟩) 24 cap26]] rfl ⟨⟨_, by kernel_rfl, res_ld (ld40 (bO1_t36.1) (bO1_t37.1))⟩, trivial⟩ ?_
  exact ⟨B5, g25, _, _, rfl, (Nat.le_trans hs3 hn6), (Nat.le_trans (Nat.le_trans hs3 (Nat.le_trans hs9 (Nat.le_trans hs13 (Nat.le_trans hs16 hs19)))) (Nat.le_trans (Nat.le_of_eq hzO21) hge30)), (Nat.ne_of_lt (Nat.lt_of_lt_of_le lt10 (Nat.le_trans (Nat.le_trans hs13 (Nat.le_trans hs16 hs19)) (Nat.le_trans (Nat.le_of_eq hzO21) hge30)))), hrt38, hrow29, hE⟩
set_option maxRecDepth 1000000 in
set_option maxHeartbeats 4000000 in
theorem first_c {A1 A2 k1 k2 : Nat} (w : World) : Calls Tryz.prog 45 #[.agg #[.slice (some ⟨A1, 0, none⟩) 24 k1, .slice (some ⟨A2, 0, none⟩) 24 k2]] w fun e w' => e = .returned (.agg #[.slice (some ⟨A1, 0, none⟩) 24 k1, .slice (some ⟨A2, 0, none⟩) 24 k2]) ∧ Ext w w' := by
  refine calls_cw 4 [(0, .agg #[.slice (some ⟨A1, 0, none⟩) 24 k1, .slice (some ⟨A2, 0, none⟩) 24 k2])] Tryz.func45 rfl Tryz.ntmps45 (by kernel_rfl) (by kernel_rfl) (fun L => ?_)
  have hE : Ext w w := Ext.refl w
  refine cw_seq ?_
  refine cw_plain ?_
  refine pl_step rfl (by kernel_rfl) (by kernel_rfl) (by kernel_rfl) (sn_new (us := #[.slice (some ⟨A1, 0, none⟩) 24 k1, .slice (some ⟨A2, 0, none⟩) 24 k2]) (t := 40) (by kernel_rfl) ?_)
  intro O1 X2 hO hOs hb hbx
  have hzO1 := hO; have hyO1 := hOs; clear hO hOs
  have bO1_0 : BoxAt X2 O1 0 (.slice (some ⟨A1, 0, none⟩) 24 k1) := hbx 0 _ rfl
  have bO1_1 : BoxAt X2 O1 1 (.slice (some ⟨A2, 0, none⟩) 24 k2) := hbx 1 _ rfl
  clear hbx
  replace hE := hE.trans hb
  have hs3 := hb.size
  clear hb
  have lt4 := bO1_0.lt
  refine pl_step rfl (by kernel_rfl) (by kernel_rfl) (by kernel_rfl) (sn_new (us := #[.slice none 0 0, .slice none 0 0]) (t := 40) (by kernel_rfl) ?_)
  intro O5 X6 hO hOs hb hbx
  have hzO5 := hO; have hyO5 := hOs; clear hO hOs
  have bO5_0 : BoxAt X6 O5 0 (.slice none 0 0) := hbx 0 _ rfl
  have bO5_1 : BoxAt X6 O5 1 (.slice none 0 0) := hbx 1 _ rfl
  clear hbx
  replace hE := hE.trans hb
  replace bO1_0 := BoxAt.ext hb bO1_0
  replace bO1_1 := BoxAt.ext hb bO1_1
  have hs7 := hb.size
  clear hb
  have lt8 := bO5_0.lt
  refine pl_nil ?_
  refine qw_then ?_
  refine cw_seq ?_
  refine cw_plain ?_
  refine pl_take (.agg #[.slice (some ⟨A1, 0, none⟩) 24 k1, .slice (some ⟨A2, 0, none⟩) 24 k2]) rfl (by kernel_rfl) (by kernel_rfl) (by kernel_rfl) (ex_load rfl (by kernel_rfl) (ld40 (bO1_0.1) (bO1_1.1))) ?_
  refine pl_put rfl (by kernel_rfl) (by kernel_rfl) (sn_set2 (O := O5) (j := 0) (v := .slice (some ⟨A1, 0, none⟩) 24 k1) (v' := .slice (some ⟨A2, 0, none⟩) 24 k2) (ex_store (p := .pointer (some ⟨O5, 0, none⟩)) (v := .agg #[.slice (some ⟨A1, 0, none⟩) 24 k1, .slice (some ⟨A2, 0, none⟩) 24 k2]) rfl (by kernel_rfl) (by kernel_rfl) (st40 bO5_0.1 bO5_0.2 bO5_1.1 bO5_1.2)) bO5_0 bO5_1 ?_)
  intro X9 ho hv0 hv1 hk
  replace hE := ho.ext hE (Nat.le_trans hs3 (Nat.le_of_eq hzO5))
  replace bO1_0 := ho.box (Nat.ne_of_gt (Nat.lt_of_lt_of_le lt4 (Nat.le_of_eq hzO5))) bO1_0
  replace bO1_1 := ho.box (Nat.ne_of_gt (Nat.lt_of_lt_of_le lt4 (Nat.le_of_eq hzO5))) bO1_1
  have hs10 : X6.heap.size ≤ X9.heap.size := Nat.le_of_eq ho.size.symm
  clear ho hk bO5_0 bO5_1
  have bO5_0 := hv0; clear hv0
  have bO5_1 := hv1; clear hv1
  refine pl_nil ?_
  refine qw_then ?_
  refine cw_ret ?_
  refine qw_ret [.agg #[.slice (some ⟨A1, 0, none⟩) 24 k1, .slice (some ⟨A2, 0, none⟩) 24 k2]] rfl ⟨⟨_, by kernel_rfl, res_ld (ld40 (bO5_0.1) (bO5_1.1))⟩, trivial⟩ ?_
  exact ⟨rfl, hE⟩
set_option maxRecDepth 1000000 in
set_option maxHeartbeats 4000000 in
theorem both_c {A1 A2 B1 B2 k1 k2 q1 q2 : Nat} {L1 L2 M1 M2 : List Int} (w : World) (hA1 : RowsAt w A1 L1) (v1 : Globe.validL L1 = true) (hA2 : RowsAt w A2 L2) (v2 : Globe.validL L2 = true) (hB1 : VA w B1 0 M1) (hB2 : VA w B2 0 M2) (n12 : A1 ≠ A2) (m11 : A1 ≠ B1) (m12 : A1 ≠ B2) (m21 : A2 ≠ B1) (m22 : A2 ≠ B2) :
    Calls Tryz.prog 43 #[.agg #[.slice (some ⟨A1, 0, none⟩) 24 k1, .slice (some ⟨A2, 0, none⟩) 24 k2], .agg #[.slice (some ⟨B1, 0, none⟩) 24 q1, .slice (some ⟨B2, 0, none⟩) 24 q2]] w fun e w' => e = .returned (.agg #[.slice (some ⟨A1, 0, none⟩) 24 k1, .slice (some ⟨A2, 0, none⟩) 24 k2]) ∧ RowsAt w' A1 (Globe.meetL L1 M1) ∧ RowsAt w' A2 (Globe.unionL L2 M2) ∧ Wrote (fun k => k = A1 ∨ k = A2) w w' := by
  have hw9 : Wrote (fun k => k = A1 ∨ k = A2) w w := Wrote.refl _ _
  have lA1 : A1 < w.heap.size := World.block_lt_of_cell? _ _ (hA1.cell (i := 0) (by decide))
  have lA2 : A2 < w.heap.size := World.block_lt_of_cell? _ _ (hA2.cell (i := 0) (by decide))
  have lB1 := hB1.lt
  have lB2 := hB2.lt
  have Hn12 := Lib.hid n12
  have Hm11 := Lib.hid m11
  have Hm12 := Lib.hid m12
  have Hm21 := Lib.hid m21
  have Hm22 := Lib.hid m22
  refine calls_cw 43 [(1, .agg #[.slice (some ⟨B1, 0, none⟩) 24 q1, .slice (some ⟨B2, 0, none⟩) 24 q2]), (0, .agg #[.slice (some ⟨A1, 0, none⟩) 24 k1, .slice (some ⟨A2, 0, none⟩) 24 k2])] Tryz.func43 rfl Tryz.ntmps43 (by kernel_rfl) (by kernel_rfl) (fun L => ?_)
  have hE : Ext w w := Ext.refl w
  refine cw_seq ?_
  refine cw_plain ?_
  refine pl_step rfl (by kernel_rfl) (by kernel_rfl) (by kernel_rfl) (sn_new (us := #[.slice (some ⟨A1, 0, none⟩) 24 k1, .slice (some ⟨A2, 0, none⟩) 24 k2]) (t := 40) (by kernel_rfl) ?_)
  intro O1 X2 hO hOs hb hbx
  have hzO1 := hO; have hyO1 := hOs; clear hO hOs
  have bO1_0 : BoxAt X2 O1 0 (.slice (some ⟨A1, 0, none⟩) 24 k1) := hbx 0 _ rfl
  have bO1_1 : BoxAt X2 O1 1 (.slice (some ⟨A2, 0, none⟩) 24 k2) := hbx 1 _ rfl
  clear hbx
  replace hE := hE.trans hb
  replace hA1 := hA1.ext hb
  replace hA2 := hA2.ext hb
  replace hB1 := hB1.ext hb
  replace hB2 := hB2.ext hb
  replace hw9 := hw9.step hb
  have hs3 := hb.size
  clear hb
  have lt4 := bO1_0.lt
  refine pl_step rfl (by kernel_rfl) (by kernel_rfl) (by kernel_rfl) (sn_new (us := #[.slice (some ⟨B1, 0, none⟩) 24 q1, .slice (some ⟨B2, 0, none⟩) 24 q2]) (t := 40) (by kernel_rfl) ?_)
  intro O5 X6 hO hOs hb hbx
  have hzO5 := hO; have hyO5 := hOs; clear hO hOs
  have bO5_0 : BoxAt X6 O5 0 (.slice (some ⟨B1, 0, none⟩) 24 q1) := hbx 0 _ rfl
  have bO5_1 : BoxAt X6 O5 1 (.slice (some ⟨B2, 0, none⟩) 24 q2) := hbx 1 _ rfl
  clear hbx
  replace hE := hE.trans hb
  replace hA1 := hA1.ext hb
  replace hA2 := hA2.ext hb
  replace hB1 := hB1.ext hb
  replace hB2 := hB2.ext hb
  replace hw9 := hw9.step hb
  replace bO1_0 := BoxAt.ext hb bO1_0
  replace bO1_1 := BoxAt.ext hb bO1_1
  have hs7 := hb.size
  clear hb
  have lt8 := bO5_0.lt
  refine pl_step rfl (by kernel_rfl) (by kernel_rfl) (by kernel_rfl) (sn_new (us := #[.slice none 0 0, .slice none 0 0]) (t := 40) (by kernel_rfl) ?_)
  intro O9 X10 hO hOs hb hbx
  have hzO9 := hO; have hyO9 := hOs; clear hO hOs
  have bO9_0 : BoxAt X10 O9 0 (.slice none 0 0) := hbx 0 _ rfl
  have bO9_1 : BoxAt X10 O9 1 (.slice none 0 0) := hbx 1 _ rfl
  clear hbx
  replace hE := hE.trans hb
  replace hA1 := hA1.ext hb
  replace hA2 := hA2.ext hb
  replace hB1 := hB1.ext hb
  replace hB2 := hB2.ext hb
  replace hw9 := hw9.step hb
  replace bO1_0 := BoxAt.ext hb bO1_0
  replace bO1_1 := BoxAt.ext hb bO1_1
  replace bO5_0 := BoxAt.ext hb bO5_0
  replace bO5_1 := BoxAt.ext hb bO5_1
  have hs11 := hb.size
  clear hb
  have lt12 := bO9_0.lt
  refine pl_nil ?_
  refine qw_then ?_
  refine cw_seq ?_
  refine cw_seq ?_
  refine cw_plain ?_
  refine pl_take (.pointer (some ⟨O1, 0, none⟩)) rfl (by kernel_rfl) (by kernel_rfl) (by kernel_rfl) (by kernel_rfl) ?_
  refine pl_take (.pointer (some ⟨O1, 0, none⟩)) rfl (by kernel_rfl) (by kernel_rfl) (by kernel_rfl) (by kernel_rfl) ?_
  refine pl_take (.slice (some ⟨A1, 0, none⟩) 24 k1) rfl (by kernel_rfl) (by kernel_rfl) (by kernel_rfl) (ex_load rfl (by kernel_rfl) (ld24 (bO1_0.1))) ?_
  refine pl_take (.int .i64 24) rfl (by kernel_rfl) (by kernel_rfl) (by kernel_rfl) (by kernel_rfl) ?_
  refine pl_take (.int .i64 0) rfl (by kernel_rfl) (by kernel_rfl) (by kernel_rfl) (by kernel_rfl) ?_
  refine pl_nil ?_
  refine qw_then ?_
  refine cw_block ?_
  refine cw_loop [2, 3, 4, 9, 10] (fun ws' wr m => ∃ i : Nat, ws' = [(2, .pointer (some ⟨O1, 0, none⟩)), (3, .pointer (some ⟨O5, 0, none⟩)), (4, .pointer (some ⟨O9, 0, none⟩)), (9, .int .i64 24), (10, .int .i64 (((i : Nat) : Int) : Int))] ∧ m = 24 - i ∧ X10.heap.size ≤ wr.heap.size ∧ VA wr B1 0 M1 ∧ VA wr B2 0 M2 ∧ Wrote (fun k => k = A1 ∨ k = A2) w wr ∧ BoxAt wr O1 0 (.slice (some ⟨A1, 0, none⟩) 24 k1) ∧ BoxAt wr O1 1 (.slice (some ⟨A2, 0, none⟩) 24 k2) ∧ BoxAt wr O5 0 (.slice (some ⟨B1, 0, none⟩) 24 q1) ∧ BoxAt wr O5 1 (.slice (some ⟨B2, 0, none⟩) 24 q2) ∧ BoxAt wr O9 0 (.slice none 0 0) ∧ BoxAt wr O9 1 (.slice none 0 0) ∧ RowsAt wr A1 (Globe.mixL Globe.and8 L1 M1 i) ∧ RowsAt wr A2 (Globe.mixL Globe.or8 L2 M2 i) ∧ i ≤ 24) (ws0 := [(2, .pointer (some ⟨O1, 0, none⟩)), (3, .pointer (some ⟨O5, 0, none⟩)), (4, .pointer (some ⟨O9, 0, none⟩)), (9, .int .i64 24), (10, .int .i64 0)]) (by kernel_rfl) _ ⟨0, rfl, rfl, Nat.le_refl _, hB1, hB2, hw9, bO1_0, bO1_1, bO5_0, bO5_1, bO9_0, bO9_1, (by rw [Globe.mix_0 v1]; exact hA1), (by rw [Globe.mix_0 v2]; exact hA2), by omega⟩ ?_
  clear hA1 hA2 hB1 hB2 hw9 bO1_0 bO1_1 bO5_0 bO5_1 bO9_0 bO9_1
  rintro m15 L ws w14 ⟨i, rfl, rfl, hs13, hB1, hB2, hw9, bO1_0, bO1_1, bO5_0, bO5_1, bO9_0, bO9_1, hr1, hr2, hi⟩
  by_cases hlt : i < 24
  ·
    have hv1 := hr1.va (Globe.mix_valid Globe.and8_lt v1 hB1.2 i)
    have hl1 := Globe.rowN_lt hv1.2 i
    have hm1 := Globe.rowN_lt hB1.2 i
    have hv2 := hr2.va (Globe.mix_valid Globe.or8_lt v2 hB2.2 i)
    have hl2 := Globe.rowN_lt hv2.2 i
    have hm2 := Globe.rowN_lt hB2.2 i
    refine cw_seq ?_
    refine cw_plain ?_
    refine pl_take (.bool true) rfl (by kernel_rfl) (by kernel_rfl) (by kernel_rfl) (ev_dec (show _ = Result.ok (Next.value (Value.bool (decide ((((i : Nat) : Int) : Int) < (24 : Int))))) _ from by kernel_rfl) (by omega)) ?_
    refine pl_nil ?_
    refine qw_then ?_
    refine cw_seq ?_
    refine cw_t (by kernel_rfl) ?_
    refine cw_skip ?_
    refine qw_then ?_
    refine cw_seq ?_
    refine cw_block ?_
    refine cw_seq ?_
    refine cw_plain ?_
    refine pl_take (.int .i64 (((i : Nat) : Int) : Int)) rfl (by kernel_rfl) (by kernel_rfl) (by kernel_rfl) (by kernel_rfl) ?_
    refine pl_take (.int .i64 (((i : Nat) : Int) : Int)) rfl (by kernel_rfl) (by kernel_rfl) (by kernel_rfl) (by kernel_rfl) ?_
    refine pl_nil ?_
    refine qw_then ?_
    refine cw_seq ?_
    refine cw_draw [(some 13, [2], []), (some 14, [13], [0]), (some 15, [14], [1]), (some 16, [5], []), (some 17, [15, 16], [2, 3]), (some 18, [17], [4]), (some 19, [3], []), (some 20, [19], [6]), (some 21, [20], [7]), (some 22, [5], []), (some 23, [21, 22], [8, 9]), (some 24, [23], [10]), (some 25, [18, 24], [5, 11]), (some 26, [15, 16], [2, 3, 0, 1, 2, 3, 4, 5, 6, 7, 8, 9, 10, 11, 12]), (none, [26, 25], [13, 12, 0, 1, 2, 3, 4, 5, 6, 7, 8, 9, 10, 11, 12])] (fun w' => w'.cell? ⟨O1, 0, none⟩ = some (.slice (some ⟨A1, 0, none⟩) 24 k1) ∧ w'.cell? ⟨O5, 0, none⟩ = some (.slice (some ⟨B1, 0, none⟩) 24 q1) ∧ w'.cell? ⟨B1, i, none⟩ = some (.int .i64 (((Globe.rowN M1 i : Nat) : Int) : Int))) (by kernel_rfl) (by kernel_rfl) (by kernel_rfl) (by kernel_rfl) ((calm_then (calm_block (calm_then (calm_then (calm_block (calm_then calm_body))))))) (⟨bO1_0.1, bO5_0.1, hB1.cell0 (y := i) (by omega)⟩) (fun ops Q X16 hb hL hR hK => ?_)
    replace hB1 := hB1.ext hb
    replace hB2 := hB2.ext hb
    replace hw9 := hw9.step hb
    replace bO1_0 := BoxAt.ext hb bO1_0
    replace bO1_1 := BoxAt.ext hb bO1_1
    replace bO5_0 := BoxAt.ext hb bO5_0
    replace bO5_1 := BoxAt.ext hb bO5_1
    replace bO9_0 := BoxAt.ext hb bO9_0
    replace bO9_1 := BoxAt.ext hb bO9_1
    replace hr1 := hr1.ext hb
    replace hr2 := hr2.ext hb
    replace hv1 := hv1.ext hb
    replace hv2 := hv2.ext hb
    have hs17 := hb.size
    clear hb
    have hS18 := And.intro (bO1_0.1) (And.intro (bO5_0.1) (hB1.cell0 (y := i) (by omega)))
    refine wd_take 0 (.pointer (some ⟨O1, 0, none⟩)) hR rfl (by kernel_rfl) rfl (by kernel_rfl) (fun w _ => by kernel_rfl) (hS18) ?_
    refine wd_take 1 (.pointer (some ⟨O1, 0, none⟩)) hR rfl (by kernel_rfl) rfl (by kernel_rfl) (fun w _ => by kernel_rfl) (hS18) ?_
    refine wd_take 2 (.slice (some ⟨A1, 0, none⟩) 24 k1) hR rfl (by kernel_rfl) rfl (by kernel_rfl) (fun w hS => ex_load rfl (by kernel_rfl) (ld24 (hS.1))) (hS18) ?_
    refine wd_take 3 (.int .i64 (((i : Nat) : Int) : Int)) hR rfl (by kernel_rfl) rfl (by kernel_rfl) (fun w _ => by kernel_rfl) (hS18) ?_
    refine wd_take 4 (.pointer (some ⟨A1, i, none⟩)) hR rfl (by kernel_rfl) rfl (by kernel_rfl) (fun w _ => ex_index (p := .slice (some ⟨A1, 0, none⟩) 24 k1) (i := .int .i64 ((i : Nat) : Int)) rfl (by kernel_rfl) (by kernel_rfl) (ix24z (k := i) (by omega))) (hS18) ?_
    refine wd_take 6 (.pointer (some ⟨O5, 0, none⟩)) hR rfl (by kernel_rfl) rfl (by kernel_rfl) (fun w _ => by kernel_rfl) (hS18) ?_
    refine wd_take 7 (.pointer (some ⟨O5, 0, none⟩)) hR rfl (by kernel_rfl) rfl (by kernel_rfl) (fun w _ => by kernel_rfl) (hS18) ?_
    refine wd_take 8 (.slice (some ⟨B1, 0, none⟩) 24 q1) hR rfl (by kernel_rfl) rfl (by kernel_rfl) (fun w hS => ex_load rfl (by kernel_rfl) (ld24 (hS.2.1))) (hS18) ?_
    refine wd_take 9 (.int .i64 (((i : Nat) : Int) : Int)) hR rfl (by kernel_rfl) rfl (by kernel_rfl) (fun w _ => by kernel_rfl) (hS18) ?_
    refine wd_take 10 (.pointer (some ⟨B1, i, none⟩)) hR rfl (by kernel_rfl) rfl (by kernel_rfl) (fun w _ => ex_index (p := .slice (some ⟨B1, 0, none⟩) 24 q1) (i := .int .i64 ((i : Nat) : Int)) rfl (by kernel_rfl) (by kernel_rfl) (ix24z (k := i) (by omega))) (hS18) ?_
    refine wd_take 11 (.int .i64 (((Globe.rowN M1 i : Nat) : Int) : Int)) hR rfl (by kernel_rfl) rfl (by kernel_rfl) (fun w hS => ex_load rfl (by kernel_rfl) (ld3 (hS.2.2))) (hS18) ?_
    refine wd_step 5 hR rfl (by kernel_rfl) (by kernel_rfl) (by kernel_rfl) (sn_eff (v := .int .i64 (((Globe.rowN (Globe.mixL Globe.and8 L1 M1 i) i : Nat) : Int) : Int)) (w' := X16) (ex_load rfl (by kernel_rfl) (ld3 (hv1.cell0 (y := i) (by omega)))) ⟨hS18, ?_⟩)
    refine wd_take 12 (.int .i64 ((((Globe.rowN (Globe.mixL Globe.and8 L1 M1 i) i) &&& (Globe.rowN M1 i) : Nat) : Int) : Int)) hR rfl (by kernel_rfl) rfl (by kernel_rfl) (fun w _ => ev_int (show _ = Result.ok (Next.value (Value.int .i64 (bits .and .i64 ((Globe.rowN (Globe.mixL Globe.and8 L1 M1 i) i : Nat) : Int) ((Globe.rowN M1 i : Nat) : Int)))) _ from by kernel_rfl) (and_i64 _ _ (by omega) (by omega))) (hS18) ?_
    refine wd_take 13 (.pointer (some ⟨A1, i, none⟩)) hR rfl (by kernel_rfl) rfl (by kernel_rfl) (fun w _ => ex_index (p := .slice (some ⟨A1, 0, none⟩) 24 k1) (i := .int .i64 ((i : Nat) : Int)) rfl (by kernel_rfl) (by kernel_rfl) (ix24z (k := i) (by omega))) (hS18) ?_
    refine wd_step 14 hR rfl (by kernel_rfl) (by kernel_rfl) (by kernel_rfl) (sn_row (g := A1) (y := i) (v := (((Globe.rowN (Globe.mixL Globe.and8 L1 M1 i) i) &&& (Globe.rowN M1 i) : Nat) : Int)) (ex_store (p := .pointer (some ⟨A1, i, none⟩)) (v := .int .i64 ((((Globe.rowN (Globe.mixL Globe.and8 L1 M1 i) i) &&& (Globe.rowN M1 i) : Nat) : Int) : Int)) rfl (by kernel_rfl) (by kernel_rfl) (st3 (hr1.cell (by omega)) (hr1.free (by omega)))) hr1 (by omega) ?_)
    intro X19 ho hv0
    replace hB1 := ho.va Hm11.out hB1
    replace hB2 := ho.va Hm12.out hB2
    replace hw9 := hw9.turn ho (.inl (.inl rfl))
    replace bO1_0 := ho.box (Nat.ne_of_lt (Nat.lt_of_lt_of_le lA1 (Nat.le_of_eq hzO1))) bO1_0
    replace bO1_1 := ho.box (Nat.ne_of_lt (Nat.lt_of_lt_of_le lA1 (Nat.le_of_eq hzO1))) bO1_1
    replace bO5_0 := ho.box (Nat.ne_of_lt (Nat.lt_of_lt_of_le lA1 (Nat.le_trans hs3 (Nat.le_of_eq hzO5)))) bO5_0
    replace bO5_1 := ho.box (Nat.ne_of_lt (Nat.lt_of_lt_of_le lA1 (Nat.le_trans hs3 (Nat.le_of_eq hzO5)))) bO5_1
    replace bO9_0 := ho.box (Nat.ne_of_lt (Nat.lt_of_lt_of_le lA1 (Nat.le_trans (Nat.le_trans hs3 hs7) (Nat.le_of_eq hzO9)))) bO9_0
    replace bO9_1 := ho.box (Nat.ne_of_lt (Nat.lt_of_lt_of_le lA1 (Nat.le_trans (Nat.le_trans hs3 hs7) (Nat.le_of_eq hzO9)))) bO9_1
    replace hr2 := ho.rows Hn12.out hr2
    replace hv2 := ho.va Hn12.out hv2
    have hs20 : X16.heap.size ≤ X19.heap.size := Nat.le_of_eq ho.size.symm
    clear ho hr1; have hr1 := hv0; clear hv0
    have hS21 := And.intro (bO1_0.1) (And.intro (bO5_0.1) (hB1.cell0 (y := i) (by omega)))
    refine ⟨hS21, ?_⟩
    refine wd_end hL hR hK (by kernel_rfl) ?_
    refine qw_then ?_
    refine cw_clean [2, 3, 4, 5, 9, 10] (ws' := [(2, .pointer (some ⟨O1, 0, none⟩)), (3, .pointer (some ⟨O5, 0, none⟩)), (4, .pointer (some ⟨O9, 0, none⟩)), (5, .int .i64 (((i : Nat) : Int) : Int)), (9, .int .i64 24), (10, .int .i64 (((i : Nat) : Int) : Int))]) (by kernel_rfl) (fun L => ?_)
    refine cw_draw [(some 27, [2], []), (some 28, [27], [0]), (some 29, [28], [1]), (some 30, [5], []), (some 31, [29, 30], [2, 3]), (some 32, [31], [4]), (some 33, [3], []), (some 34, [33], [6]), (some 35, [34], [7]), (some 36, [5], []), (some 37, [35, 36], [8, 9]), (some 38, [37], [10]), (some 39, [32, 38], [5, 11]), (some 40, [29, 30], [2, 3, 0, 1, 2, 3, 4, 5, 6, 7, 8, 9, 10, 11, 12]), (none, [40, 39], [13, 12, 0, 1, 2, 3, 4, 5, 6, 7, 8, 9, 10, 11, 12])] (fun w' => w'.cell? ⟨O1, 1, none⟩ = some (.slice (some ⟨A2, 0, none⟩) 24 k2) ∧ w'.cell? ⟨O5, 1, none⟩ = some (.slice (some ⟨B2, 0, none⟩) 24 q2) ∧ w'.cell? ⟨B2, i, none⟩ = some (.int .i64 (((Globe.rowN M2 i : Nat) : Int) : Int))) (by kernel_rfl) (by kernel_rfl) (by kernel_rfl) (by kernel_rfl) ((calm_block (calm_then (calm_then (calm_block (calm_then calm_body)))))) (⟨bO1_1.1, bO5_1.1, hB2.cell0 (y := i) (by omega)⟩) (fun ops Q X22 hb hL hR hK => ?_)
    replace hB1 := hB1.ext hb
    replace hB2 := hB2.ext hb
    replace hw9 := hw9.step hb
    replace bO1_0 := BoxAt.ext hb bO1_0
    replace bO1_1 := BoxAt.ext hb bO1_1
    replace bO5_0 := BoxAt.ext hb bO5_0
    replace bO5_1 := BoxAt.ext hb bO5_1
    replace bO9_0 := BoxAt.ext hb bO9_0
    replace bO9_1 := BoxAt.ext hb bO9_1
    replace hr2 := hr2.ext hb
    replace hv2 := hv2.ext hb
    replace hr1 := hr1.ext hb
    have hs23 := hb.size
    clear hb
    have hS24 := And.intro (bO1_1.1) (And.intro (bO5_1.1) (hB2.cell0 (y := i) (by omega)))
    refine wd_take 0 (.pointer (some ⟨O1, 1, none⟩)) hR rfl (by kernel_rfl) rfl (by kernel_rfl) (fun w _ => by kernel_rfl) (hS24) ?_
    refine wd_take 1 (.pointer (some ⟨O1, 1, none⟩)) hR rfl (by kernel_rfl) rfl (by kernel_rfl) (fun w _ => by kernel_rfl) (hS24) ?_
    refine wd_take 2 (.slice (some ⟨A2, 0, none⟩) 24 k2) hR rfl (by kernel_rfl) rfl (by kernel_rfl) (fun w hS => ex_load rfl (by kernel_rfl) (ld24 (hS.1))) (hS24) ?_
    refine wd_take 3 (.int .i64 (((i : Nat) : Int) : Int)) hR rfl (by kernel_rfl) rfl (by kernel_rfl) (fun w _ => by kernel_rfl) (hS24) ?_
    refine wd_take 4 (.pointer (some ⟨A2, i, none⟩)) hR rfl (by kernel_rfl) rfl (by kernel_rfl) (fun w _ => ex_index (p := .slice (some ⟨A2, 0, none⟩) 24 k2) (i := .int .i64 ((i : Nat) : Int)) rfl (by kernel_rfl) (by kernel_rfl) (ix24z (k := i) (by omega))) (hS24) ?_
    refine wd_take 6 (.pointer (some ⟨O5, 1, none⟩)) hR rfl (by kernel_rfl) rfl (by kernel_rfl) (fun w _ => by kernel_rfl) (hS24) ?_
    refine wd_take 7 (.pointer (some ⟨O5, 1, none⟩)) hR rfl (by kernel_rfl) rfl (by kernel_rfl) (fun w _ => by kernel_rfl) (hS24) ?_
    refine wd_take 8 (.slice (some ⟨B2, 0, none⟩) 24 q2) hR rfl (by kernel_rfl) rfl (by kernel_rfl) (fun w hS => ex_load rfl (by kernel_rfl) (ld24 (hS.2.1))) (hS24) ?_
    refine wd_take 9 (.int .i64 (((i : Nat) : Int) : Int)) hR rfl (by kernel_rfl) rfl (by kernel_rfl) (fun w _ => by kernel_rfl) (hS24) ?_
    refine wd_take 10 (.pointer (some ⟨B2, i, none⟩)) hR rfl (by kernel_rfl) rfl (by kernel_rfl) (fun w _ => ex_index (p := .slice (some ⟨B2, 0, none⟩) 24 q2) (i := .int .i64 ((i : Nat) : Int)) rfl (by kernel_rfl) (by kernel_rfl) (ix24z (k := i) (by omega))) (hS24) ?_
    refine wd_take 11 (.int .i64 (((Globe.rowN M2 i : Nat) : Int) : Int)) hR rfl (by kernel_rfl) rfl (by kernel_rfl) (fun w hS => ex_load rfl (by kernel_rfl) (ld3 (hS.2.2))) (hS24) ?_
    refine wd_step 5 hR rfl (by kernel_rfl) (by kernel_rfl) (by kernel_rfl) (sn_eff (v := .int .i64 (((Globe.rowN (Globe.mixL Globe.or8 L2 M2 i) i : Nat) : Int) : Int)) (w' := X22) (ex_load rfl (by kernel_rfl) (ld3 (hv2.cell0 (y := i) (by omega)))) ⟨hS24, ?_⟩)
    refine wd_take 12 (.int .i64 ((((Globe.rowN (Globe.mixL Globe.or8 L2 M2 i) i) ||| (Globe.rowN M2 i) : Nat) : Int) : Int)) hR rfl (by kernel_rfl) rfl (by kernel_rfl) (fun w _ => ev_int (show _ = Result.ok (Next.value (Value.int .i64 (bits .or .i64 ((Globe.rowN (Globe.mixL Globe.or8 L2 M2 i) i : Nat) : Int) ((Globe.rowN M2 i : Nat) : Int)))) _ from by kernel_rfl) (or_i64 _ _ (by omega) (by omega))) (hS24) ?_
    refine wd_take 13 (.pointer (some ⟨A2, i, none⟩)) hR rfl (by kernel_rfl) rfl (by kernel_rfl) (fun w _ => ex_index (p := .slice (some ⟨A2, 0, none⟩) 24 k2) (i := .int .i64 ((i : Nat) : Int)) rfl (by kernel_rfl) (by kernel_rfl) (ix24z (k := i) (by omega))) (hS24) ?_
    refine wd_step 14 hR rfl (by kernel_rfl) (by kernel_rfl) (by kernel_rfl) (sn_row (g := A2) (y := i) (v := (((Globe.rowN (Globe.mixL Globe.or8 L2 M2 i) i) ||| (Globe.rowN M2 i) : Nat) : Int)) (ex_store (p := .pointer (some ⟨A2, i, none⟩)) (v := .int .i64 ((((Globe.rowN (Globe.mixL Globe.or8 L2 M2 i) i) ||| (Globe.rowN M2 i) : Nat) : Int) : Int)) rfl (by kernel_rfl) (by kernel_rfl) (st3 (hr2.cell (by omega)) (hr2.free (by omega)))) hr2 (by omega) ?_)
    intro X25 ho hv0
    replace hB1 := ho.va Hm21.out hB1
    replace hB2 := ho.va Hm22.out hB2
    replace hw9 := hw9.turn ho (.inl (.inr rfl))
    replace bO1_0 := ho.box (Nat.ne_of_lt (Nat.lt_of_lt_of_le lA2 (Nat.le_of_eq hzO1))) bO1_0
    replace bO1_1 := ho.box (Nat.ne_of_lt (Nat.lt_of_lt_of_le lA2 (Nat.le_of_eq hzO1))) bO1_1
    replace bO5_0 := ho.box (Nat.ne_of_lt (Nat.lt_of_lt_of_le lA2 (Nat.le_trans hs3 (Nat.le_of_eq hzO5)))) bO5_0
    replace bO5_1 := ho.box (Nat.ne_of_lt (Nat.lt_of_lt_of_le lA2 (Nat.le_trans hs3 (Nat.le_of_eq hzO5)))) bO5_1
    replace bO9_0 := ho.box (Nat.ne_of_lt (Nat.lt_of_lt_of_le lA2 (Nat.le_trans (Nat.le_trans hs3 hs7) (Nat.le_of_eq hzO9)))) bO9_0
    replace bO9_1 := ho.box (Nat.ne_of_lt (Nat.lt_of_lt_of_le lA2 (Nat.le_trans (Nat.le_trans hs3 hs7) (Nat.le_of_eq hzO9)))) bO9_1
    replace hr1 := ho.rows (Ne.symm Hn12.out) hr1
    have hs26 : X22.heap.size ≤ X25.heap.size := Nat.le_of_eq ho.size.symm
    clear ho hr2; have hr2 := hv0; clear hv0
    have hS27 := And.intro (bO1_1.1) (And.intro (bO5_1.1) (hB2.cell0 (y := i) (by omega)))
    refine ⟨hS27, ?_⟩
    refine wd_end hL hR hK (by kernel_rfl) ?_
    refine qw_block ?_
    refine qw_then ?_
    refine cw_clean [2, 3, 4, 9, 10] (ws' := [(2, .pointer (some ⟨O1, 0, none⟩)), (3, .pointer (some ⟨O5, 0, none⟩)), (4, .pointer (some ⟨O9, 0, none⟩)), (9, .int .i64 24), (10, .int .i64 (((i : Nat) : Int) : Int))]) (by kernel_rfl) (fun L => ?_)
    refine cw_plain ?_
    refine pl_take (.int .i64 (((i + 1 : Nat) : Int) : Int)) rfl (by kernel_rfl) (by kernel_rfl) (by kernel_rfl) (ev_wrap (by kernel_rfl) (by omega) (by omega)) ?_
    refine pl_take (.int .i64 (((i + 1 : Nat) : Int) : Int)) rfl (by kernel_rfl) (by kernel_rfl) (by kernel_rfl) (by kernel_rfl) ?_
    refine pl_nil ?_
    refine qw_round [2, 3, 4, 9, 10] (ws' := [(2, .pointer (some ⟨O1, 0, none⟩)), (3, .pointer (some ⟨O5, 0, none⟩)), (4, .pointer (some ⟨O9, 0, none⟩)), (9, .int .i64 24), (10, .int .i64 (((i + 1 : Nat) : Int) : Int))]) (by kernel_rfl) _ ?_ ⟨(i + 1), rfl, rfl, (Nat.le_trans hs13 (Nat.le_trans hs17 (Nat.le_trans hs20 (Nat.le_trans hs23 hs26)))), hB1, hB2, hw9, bO1_0, bO1_1, bO5_0, bO5_1, bO9_0, bO9_1, (by rw [← Globe.mix_succ hlt]; exact hr1), (by rw [← Globe.mix_succ hlt]; exact hr2), by omega⟩
    omega
  ·
    have hin : i = 24 := by omega
    refine cw_seq ?_
    refine cw_plain ?_
    refine pl_take (.bool false) rfl (by kernel_rfl) (by kernel_rfl) (by kernel_rfl) (ev_ndec (show _ = Result.ok (Next.value (Value.bool (decide ((((i : Nat) : Int) : Int) < (24 : Int))))) _ from by kernel_rfl) (by omega)) ?_
    refine pl_nil ?_
    refine qw_then ?_
    refine cw_seq ?_
    refine cw_f (by kernel_rfl) ?_
    refine cw_exit ?_
    refine qw_then_exit ?_
    refine qw_then_exit ?_
    refine qw_block_out ?_
    refine qw_then ?_
    refine cw_seq ?_
    refine cw_plain ?_
    refine pl_take (.agg #[.slice (some ⟨A1, 0, none⟩) 24 k1, .slice (some ⟨A2, 0, none⟩) 24 k2]) rfl (by kernel_rfl) (by kernel_rfl) (by kernel_rfl) (ex_load rfl (by kernel_rfl) (ld40 (bO1_0.1) (bO1_1.1))) ?_
    refine pl_put rfl (by kernel_rfl) (by kernel_rfl) (sn_set2 (O := O9) (j := 0) (v := .slice (some ⟨A1, 0, none⟩) 24 k1) (v' := .slice (some ⟨A2, 0, none⟩) 24 k2) (ex_store (p := .pointer (some ⟨O9, 0, none⟩)) (v := .agg #[.slice (some ⟨A1, 0, none⟩) 24 k1, .slice (some ⟨A2, 0, none⟩) 24 k2]) rfl (by kernel_rfl) (by kernel_rfl) (st40 bO9_0.1 bO9_0.2 bO9_1.1 bO9_1.2)) bO9_0 bO9_1 ?_)
    intro X28 ho hv0 hv1 hk
    replace hB1 := ho.va (Nat.ne_of_gt (Nat.lt_of_lt_of_le lB1 (Nat.le_trans (Nat.le_trans hs3 hs7) (Nat.le_of_eq hzO9)))) hB1
    replace hB2 := ho.va (Nat.ne_of_gt (Nat.lt_of_lt_of_le lB2 (Nat.le_trans (Nat.le_trans hs3 hs7) (Nat.le_of_eq hzO9)))) hB2
    replace hw9 := hw9.turn ho (.inr (Nat.le_trans (Nat.le_trans hs3 hs7) (Nat.le_of_eq hzO9)))
    replace bO1_0 := ho.box (Nat.ne_of_gt (Nat.lt_of_lt_of_le lt4 (Nat.le_trans hs7 (Nat.le_of_eq hzO9)))) bO1_0
    replace bO1_1 := ho.box (Nat.ne_of_gt (Nat.lt_of_lt_of_le lt4 (Nat.le_trans hs7 (Nat.le_of_eq hzO9)))) bO1_1
    replace bO5_0 := ho.box (Nat.ne_of_gt (Nat.lt_of_lt_of_le lt8 (Nat.le_of_eq hzO9))) bO5_0
    replace bO5_1 := ho.box (Nat.ne_of_gt (Nat.lt_of_lt_of_le lt8 (Nat.le_of_eq hzO9))) bO5_1
    replace hr1 := ho.rows (Nat.ne_of_gt (Nat.lt_of_lt_of_le lA1 (Nat.le_trans (Nat.le_trans hs3 hs7) (Nat.le_of_eq hzO9)))) hr1
    replace hr2 := ho.rows (Nat.ne_of_gt (Nat.lt_of_lt_of_le lA2 (Nat.le_trans (Nat.le_trans hs3 hs7) (Nat.le_of_eq hzO9)))) hr2
    have hs29 : w14.heap.size ≤ X28.heap.size := Nat.le_of_eq ho.size.symm
    clear ho hk bO9_0 bO9_1
    have bO9_0 := hv0; clear hv0
    have bO9_1 := hv1; clear hv1
    refine pl_nil ?_
    refine qw_then ?_
    refine cw_ret ?_
    refine qw_ret [.agg #[.slice (some ⟨A1, 0, none⟩) 24 k1, .slice (some ⟨A2, 0, none⟩) 24 k2]] rfl ⟨⟨_, by kernel_rfl, res_ld (ld40 (bO9_0.1) (bO9_1.1))⟩, trivial⟩ ?_
    exact ⟨rfl, by rw [hin, Globe.mix_24] at hr1; exact hr1, by rw [hin, Globe.mix_24] at hr2; exact hr2, hw9⟩

end Go.Proofs.YtajdohcgjgknmaaGreatDoor
