/- Contracts of package globe: Union, Meet, Less, Shifted. -/
import Derived.Test.YtglfoglkdbbmmaaDoorGA
namespace Go.Proofs.YtglfoglkdbbmmaaDoor
open Go.RowKit

set_option maxHeartbeats 1000000 in
/-- Where one of two is no area, the third argument plays no part. -/
theorem mixed_no (fv : Value) (a1 : Option Addr) (l1 : List Int) (n1 c1 : Nat) (v1 : Bool) (a2 : Option Addr) (l2 : List Int) (n2 c2 : Nat) (v2 : Bool) (w : World) (h1 : AA w a1 l1 n1 v1) (h2 : AA w a2 l2 n2 v2) (hv : (v1 && v2) = false) :
    Calls Tryd.prog 56 #[.agg #[.slice a1 n1 c1], .agg #[.slice a2 n2 c2], fv] w (RetErr w 50) := by
  cases v1 <;> cases v2
  all_goals
    (try simp at hv)
    try
      clear hv
      go_enter Tryd.func56, Tryd.ntmps56
      go_wp2_with (go_at_call 38; refine (Valid_e _ _ (by assumption) (by (repeat' (first | (with_reducible assumption) | (with_reducible exact Ext.refl _) | (with_reducible refine Ext.alloc ?_ _) | (with_reducible refine Ext.drew ?_) | (with_reducible refine Ext.drewN ?_ _) | (with_reducible refine Ext.setCell ?_ ?_ _) | (with_reducible refine Ext.trans ?_ (by assumption)) | go_size)))).mono ?_; rintro e w1 ⟨rfl, hb⟩; have hc := hb.cellE; have hf := hb.frozenE; have hz := hb.size; have ha := alloc_keeps w1; (try simp only [World.size_alloc] at hc hf hz); (try simp only [World.size_setCell] at hc hf hz); (try simp only [World.size_drew] at hc hf hz))
      ((try simp only [Exit.inBlock, Exit.then]); refine bodyPost_ret (v := .tuple #[.agg #[.slice none 0 0], .int .i64 50]) (by simp [results, Tryd.results56, go_sem, *]) rfl ?_)
      exact ⟨rfl, by (repeat' (first | (with_reducible assumption) | (with_reducible exact Ext.refl _) | (with_reducible refine Ext.alloc ?_ _) | (with_reducible refine Ext.drew ?_) | (with_reducible refine Ext.drewN ?_ _) | (with_reducible refine Ext.setCell ?_ ?_ _) | (with_reducible refine Ext.trans ?_ (by assumption)) | go_size))⟩

set_option maxHeartbeats 1000000 in
theorem Union_v {w1 w2 : World} {b1 o1 b2 o2 : Nat} (c1 c2 : Nat) {l1 l2 : List Int} (w : World) (h1 : VA w1 b1 o1 l1) (e1 : Ext w1 w) (h2 : VA w2 b2 o2 l2) (e2 : Ext w2 w) :
    Calls Tryd.prog 31 #[.agg #[.slice (some ⟨b1, o1, none⟩) 24 c1], .agg #[.slice (some ⟨b2, o2, none⟩) 24 c2]] w (RetV w (Globe.unionL l1 l2)) := by
  have H1 := Lib.hid (h1.ext e1)
  have H2 := Lib.hid (h2.ext e2)
  have HV := Lib.hid (Globe.union_valid h1.2 h2.2)
  clear e1 e2 h1 h2
  go_enter Tryd.func31, Tryd.ntmps31
  go_wp2_with (go_at_call 56; refine (mixed_Union _ _ _ _ _ _ l1 l2 _ (fun i hi => Ext.cell (by (repeat' (first | (with_reducible assumption) | (with_reducible exact Ext.refl _) | (with_reducible refine Ext.alloc ?_ _) | (with_reducible refine Ext.drew ?_) | (with_reducible refine Ext.drewN ?_ _) | (with_reducible refine Ext.setCell ?_ ?_ _) | (with_reducible refine Ext.trans ?_ (by assumption)) | go_size))) (H1.out.1 i hi)) (fun i hi => Ext.cell (by (repeat' (first | (with_reducible assumption) | (with_reducible exact Ext.refl _) | (with_reducible refine Ext.alloc ?_ _) | (with_reducible refine Ext.drew ?_) | (with_reducible refine Ext.drewN ?_ _) | (with_reducible refine Ext.setCell ?_ ?_ _) | (with_reducible refine Ext.trans ?_ (by assumption)) | go_size))) (H2.out.1 i hi)) H1.out.2 H2.out.2).mono ?_; rintro e w1 ⟨B, rfl, hB, hr, hb⟩; have hc := hb.cellE; have hf := hb.frozenE; have hz := hb.size; have ha := alloc_keeps w1; (try simp only [World.size_alloc] at hc hf hz); (try simp only [World.size_setCell] at hc hf hz); (try simp only [World.size_drew] at hc hf hz))
  ((try simp only [Exit.inBlock, Exit.then]); refine bodyPost_ret (v := .tuple #[.agg #[.slice (some ⟨B, 0, none⟩) 24 24], .int .i64 0]) (by simp [results, Tryd.results31, go_sem, hc]) rfl ?_)
  refine RetAE.v ⟨B, rfl, by first | (simp at hB; omega) | omega, hr.other (by show w.heap.size + 1 + 1 ≠ B; (try simp at hB); omega) _, by (repeat' (first | (with_reducible assumption) | (with_reducible exact Ext.refl _) | (with_reducible refine Ext.alloc ?_ _) | (with_reducible refine Ext.drew ?_) | (with_reducible refine Ext.drewN ?_ _) | (with_reducible refine Ext.setCell ?_ ?_ _) | (with_reducible refine Ext.trans ?_ (by assumption)) | go_size))⟩ HV.out
set_option maxHeartbeats 1000000 in
theorem Union_n (a1 : Option Addr) (l1 : List Int) (n1 c1 : Nat) (v1 : Bool) (a2 : Option Addr) (l2 : List Int) (n2 c2 : Nat) (v2 : Bool) (w : World) (h1 : AA w a1 l1 n1 v1) (h2 : AA w a2 l2 n2 v2) (hv : (v1 && v2) = false) :
    Calls Tryd.prog 31 #[.agg #[.slice a1 n1 c1], .agg #[.slice a2 n2 c2]] w (RetErr w 50) := by
  go_enter Tryd.func31, Tryd.ntmps31
  go_wp2_with (go_at_call 56; refine (mixed_no _ _ l1 _ _ v1 _ l2 _ _ v2 _ (h1.ext (by (repeat' (first | (with_reducible assumption) | (with_reducible exact Ext.refl _) | (with_reducible refine Ext.alloc ?_ _) | (with_reducible refine Ext.drew ?_) | (with_reducible refine Ext.drewN ?_ _) | (with_reducible refine Ext.setCell ?_ ?_ _) | (with_reducible refine Ext.trans ?_ (by assumption)) | go_size)))) (h2.ext (by (repeat' (first | (with_reducible assumption) | (with_reducible exact Ext.refl _) | (with_reducible refine Ext.alloc ?_ _) | (with_reducible refine Ext.drew ?_) | (with_reducible refine Ext.drewN ?_ _) | (with_reducible refine Ext.setCell ?_ ?_ _) | (with_reducible refine Ext.trans ?_ (by assumption)) | go_size)))) hv).mono ?_; rintro e w1 ⟨rfl, hb⟩; have hc := hb.cellE; have hf := hb.frozenE; have hz := hb.size; have ha := alloc_keeps w1; (try simp only [World.size_alloc] at hc hf hz); (try simp only [World.size_setCell] at hc hf hz); (try simp only [World.size_drew] at hc hf hz))
  ((try simp only [Exit.inBlock, Exit.then]); refine bodyPost_ret (v := .tuple #[.agg #[.slice none 0 0], .int .i64 50]) (by simp [results, Tryd.results31, go_sem, hc]) rfl ?_)
  exact ⟨rfl, by (repeat' (first | (with_reducible assumption) | (with_reducible exact Ext.refl _) | (with_reducible refine Ext.alloc ?_ _) | (with_reducible refine Ext.drew ?_) | (with_reducible refine Ext.drewN ?_ _) | (with_reducible refine Ext.setCell ?_ ?_ _) | (with_reducible refine Ext.trans ?_ (by assumption)) | go_size))⟩
theorem Union_c {w1 w2 : World} {a1 : Option Addr} {l1 : List Int} {n1 : Nat} (c1 : Nat) {v1 : Bool} {a2 : Option Addr} {l2 : List Int} {n2 : Nat} (c2 : Nat) {v2 : Bool} (w : World) (h1 : AA w1 a1 l1 n1 v1) (e1 : Ext w1 w) (h2 : AA w2 a2 l2 n2 v2) (e2 : Ext w2 w) :
    Calls Tryd.prog 31 #[.agg #[.slice a1 n1 c1], .agg #[.slice a2 n2 c2]] w (RetAny w (v1 && v2) (Globe.unionL l1 l2) 50) := by
  replace h1 := h1.ext e1
  replace h2 := h2.ext e2
  cases hq : (v1 && v2)
  · exact (Union_n a1 l1 n1 c1 v1 a2 l2 n2 c2 v2 w h1 h2 hq).mono fun _ _ h => RetAny.no h
  · obtain ⟨rfl, rfl⟩ := Bool.and_eq_true_iff.1 hq
    obtain ⟨b1, o1, rfl, rfl, r1⟩ := h1.va
    obtain ⟨b2, o2, rfl, rfl, r2⟩ := h2.va
    exact (Union_v c1 c2 w r1 (Ext.refl _) r2 (Ext.refl _)).mono fun _ _ h => h.any
set_option maxHeartbeats 1000000 in
theorem Meet_v {w1 w2 : World} {b1 o1 b2 o2 : Nat} (c1 c2 : Nat) {l1 l2 : List Int} (w : World) (h1 : VA w1 b1 o1 l1) (e1 : Ext w1 w) (h2 : VA w2 b2 o2 l2) (e2 : Ext w2 w) :
    Calls Tryd.prog 28 #[.agg #[.slice (some ⟨b1, o1, none⟩) 24 c1], .agg #[.slice (some ⟨b2, o2, none⟩) 24 c2]] w (RetV w (Globe.meetL l1 l2)) := by
  have H1 := Lib.hid (h1.ext e1)
  have H2 := Lib.hid (h2.ext e2)
  have HV := Lib.hid (Globe.meet_valid (b := l2) h1.2)
  clear e1 e2 h1 h2
  go_enter Tryd.func28, Tryd.ntmps28
  go_wp2_with (go_at_call 56; refine (mixed_Meet _ _ _ _ _ _ l1 l2 _ (fun i hi => Ext.cell (by (repeat' (first | (with_reducible assumption) | (with_reducible exact Ext.refl _) | (with_reducible refine Ext.alloc ?_ _) | (with_reducible refine Ext.drew ?_) | (with_reducible refine Ext.drewN ?_ _) | (with_reducible refine Ext.setCell ?_ ?_ _) | (with_reducible refine Ext.trans ?_ (by assumption)) | go_size))) (H1.out.1 i hi)) (fun i hi => Ext.cell (by (repeat' (first | (with_reducible assumption) | (with_reducible exact Ext.refl _) | (with_reducible refine Ext.alloc ?_ _) | (with_reducible refine Ext.drew ?_) | (with_reducible refine Ext.drewN ?_ _) | (with_reducible refine Ext.setCell ?_ ?_ _) | (with_reducible refine Ext.trans ?_ (by assumption)) | go_size))) (H2.out.1 i hi)) H1.out.2 H2.out.2).mono ?_; rintro e w1 ⟨B, rfl, hB, hr, hb⟩; have hc := hb.cellE; have hf := hb.frozenE; have hz := hb.size; have ha := alloc_keeps w1; (try simp only [World.size_alloc] at hc hf hz); (try simp only [World.size_setCell] at hc hf hz); (try simp only [World.size_drew] at hc hf hz))
  ((try simp only [Exit.inBlock, Exit.then]); refine bodyPost_ret (v := .tuple #[.agg #[.slice (some ⟨B, 0, none⟩) 24 24], .int .i64 0]) (by simp [results, Tryd.results28, go_sem, hc]) rfl ?_)
  refine RetAE.v ⟨B, rfl, by first | (simp at hB; omega) | omega, hr.other (by show w.heap.size + 1 + 1 ≠ B; (try simp at hB); omega) _, by (repeat' (first | (with_reducible assumption) | (with_reducible exact Ext.refl _) | (with_reducible refine Ext.alloc ?_ _) | (with_reducible refine Ext.drew ?_) | (with_reducible refine Ext.drewN ?_ _) | (with_reducible refine Ext.setCell ?_ ?_ _) | (with_reducible refine Ext.trans ?_ (by assumption)) | go_size))⟩ HV.out
set_option maxHeartbeats 1000000 in
theorem Meet_n (a1 : Option Addr) (l1 : List Int) (n1 c1 : Nat) (v1 : Bool) (a2 : Option Addr) (l2 : List Int) (n2 c2 : Nat) (v2 : Bool) (w : World) (h1 : AA w a1 l1 n1 v1) (h2 : AA w a2 l2 n2 v2) (hv : (v1 && v2) = false) :
    Calls Tryd.prog 28 #[.agg #[.slice a1 n1 c1], .agg #[.slice a2 n2 c2]] w (RetErr w 50) := by
  go_enter Tryd.func28, Tryd.ntmps28
  go_wp2_with (go_at_call 56; refine (mixed_no _ _ l1 _ _ v1 _ l2 _ _ v2 _ (h1.ext (by (repeat' (first | (with_reducible assumption) | (with_reducible exact Ext.refl _) | (with_reducible refine Ext.alloc ?_ _) | (with_reducible refine Ext.drew ?_) | (with_reducible refine Ext.drewN ?_ _) | (with_reducible refine Ext.setCell ?_ ?_ _) | (with_reducible refine Ext.trans ?_ (by assumption)) | go_size)))) (h2.ext (by (repeat' (first | (with_reducible assumption) | (with_reducible exact Ext.refl _) | (with_reducible refine Ext.alloc ?_ _) | (with_reducible refine Ext.drew ?_) | (with_reducible refine Ext.drewN ?_ _) | (with_reducible refine Ext.setCell ?_ ?_ _) | (with_reducible refine Ext.trans ?_ (by assumption)) | go_size)))) hv).mono ?_; rintro e w1 ⟨rfl, hb⟩; have hc := hb.cellE; have hf := hb.frozenE; have hz := hb.size; have ha := alloc_keeps w1; (try simp only [World.size_alloc] at hc hf hz); (try simp only [World.size_setCell] at hc hf hz); (try simp only [World.size_drew] at hc hf hz))
  ((try simp only [Exit.inBlock, Exit.then]); refine bodyPost_ret (v := .tuple #[.agg #[.slice none 0 0], .int .i64 50]) (by simp [results, Tryd.results28, go_sem, hc]) rfl ?_)
  exact ⟨rfl, by (repeat' (first | (with_reducible assumption) | (with_reducible exact Ext.refl _) | (with_reducible refine Ext.alloc ?_ _) | (with_reducible refine Ext.drew ?_) | (with_reducible refine Ext.drewN ?_ _) | (with_reducible refine Ext.setCell ?_ ?_ _) | (with_reducible refine Ext.trans ?_ (by assumption)) | go_size))⟩
theorem Meet_c {w1 w2 : World} {a1 : Option Addr} {l1 : List Int} {n1 : Nat} (c1 : Nat) {v1 : Bool} {a2 : Option Addr} {l2 : List Int} {n2 : Nat} (c2 : Nat) {v2 : Bool} (w : World) (h1 : AA w1 a1 l1 n1 v1) (e1 : Ext w1 w) (h2 : AA w2 a2 l2 n2 v2) (e2 : Ext w2 w) :
    Calls Tryd.prog 28 #[.agg #[.slice a1 n1 c1], .agg #[.slice a2 n2 c2]] w (RetAny w (v1 && v2) (Globe.meetL l1 l2) 50) := by
  replace h1 := h1.ext e1
  replace h2 := h2.ext e2
  cases hq : (v1 && v2)
  · exact (Meet_n a1 l1 n1 c1 v1 a2 l2 n2 c2 v2 w h1 h2 hq).mono fun _ _ h => RetAny.no h
  · obtain ⟨rfl, rfl⟩ := Bool.and_eq_true_iff.1 hq
    obtain ⟨b1, o1, rfl, rfl, r1⟩ := h1.va
    obtain ⟨b2, o2, rfl, rfl, r2⟩ := h2.va
    exact (Meet_v c1 c2 w r1 (Ext.refl _) r2 (Ext.refl _)).mono fun _ _ h => h.any
set_option maxHeartbeats 1000000 in
theorem Less_v {w1 w2 : World} {b1 o1 b2 o2 : Nat} (c1 c2 : Nat) {l1 l2 : List Int} (w : World) (h1 : VA w1 b1 o1 l1) (e1 : Ext w1 w) (h2 : VA w2 b2 o2 l2) (e2 : Ext w2 w) :
    Calls Tryd.prog 33 #[.agg #[.slice (some ⟨b1, o1, none⟩) 24 c1], .agg #[.slice (some ⟨b2, o2, none⟩) 24 c2]] w (RetV w (Globe.lessL l1 l2)) := by
  have H1 := Lib.hid (h1.ext e1)
  have H2 := Lib.hid (h2.ext e2)
  have HV := Lib.hid (Globe.less_valid (b := l2) h1.2)
  clear e1 e2 h1 h2
  go_enter Tryd.func33, Tryd.ntmps33
  go_wp2_with (go_at_call 56; refine (mixed_Less _ _ _ _ _ _ l1 l2 _ (fun i hi => Ext.cell (by (repeat' (first | (with_reducible assumption) | (with_reducible exact Ext.refl _) | (with_reducible refine Ext.alloc ?_ _) | (with_reducible refine Ext.drew ?_) | (with_reducible refine Ext.drewN ?_ _) | (with_reducible refine Ext.setCell ?_ ?_ _) | (with_reducible refine Ext.trans ?_ (by assumption)) | go_size))) (H1.out.1 i hi)) (fun i hi => Ext.cell (by (repeat' (first | (with_reducible assumption) | (with_reducible exact Ext.refl _) | (with_reducible refine Ext.alloc ?_ _) | (with_reducible refine Ext.drew ?_) | (with_reducible refine Ext.drewN ?_ _) | (with_reducible refine Ext.setCell ?_ ?_ _) | (with_reducible refine Ext.trans ?_ (by assumption)) | go_size))) (H2.out.1 i hi)) H1.out.2 H2.out.2).mono ?_; rintro e w1 ⟨B, rfl, hB, hr, hb⟩; have hc := hb.cellE; have hf := hb.frozenE; have hz := hb.size; have ha := alloc_keeps w1; (try simp only [World.size_alloc] at hc hf hz); (try simp only [World.size_setCell] at hc hf hz); (try simp only [World.size_drew] at hc hf hz))
  ((try simp only [Exit.inBlock, Exit.then]); refine bodyPost_ret (v := .tuple #[.agg #[.slice (some ⟨B, 0, none⟩) 24 24], .int .i64 0]) (by simp [results, Tryd.results33, go_sem, hc]) rfl ?_)
  refine RetAE.v ⟨B, rfl, by first | (simp at hB; omega) | omega, hr.other (by show w.heap.size + 1 + 1 ≠ B; (try simp at hB); omega) _, by (repeat' (first | (with_reducible assumption) | (with_reducible exact Ext.refl _) | (with_reducible refine Ext.alloc ?_ _) | (with_reducible refine Ext.drew ?_) | (with_reducible refine Ext.drewN ?_ _) | (with_reducible refine Ext.setCell ?_ ?_ _) | (with_reducible refine Ext.trans ?_ (by assumption)) | go_size))⟩ HV.out
set_option maxHeartbeats 1000000 in
theorem Less_n (a1 : Option Addr) (l1 : List Int) (n1 c1 : Nat) (v1 : Bool) (a2 : Option Addr) (l2 : List Int) (n2 c2 : Nat) (v2 : Bool) (w : World) (h1 : AA w a1 l1 n1 v1) (h2 : AA w a2 l2 n2 v2) (hv : (v1 && v2) = false) :
    Calls Tryd.prog 33 #[.agg #[.slice a1 n1 c1], .agg #[.slice a2 n2 c2]] w (RetErr w 50) := by
  go_enter Tryd.func33, Tryd.ntmps33
  go_wp2_with (go_at_call 56; refine (mixed_no _ _ l1 _ _ v1 _ l2 _ _ v2 _ (h1.ext (by (repeat' (first | (with_reducible assumption) | (with_reducible exact Ext.refl _) | (with_reducible refine Ext.alloc ?_ _) | (with_reducible refine Ext.drew ?_) | (with_reducible refine Ext.drewN ?_ _) | (with_reducible refine Ext.setCell ?_ ?_ _) | (with_reducible refine Ext.trans ?_ (by assumption)) | go_size)))) (h2.ext (by (repeat' (first | (with_reducible assumption) | (with_reducible exact Ext.refl _) | (with_reducible refine Ext.alloc ?_ _) | (with_reducible refine Ext.drew ?_) | (with_reducible refine Ext.drewN ?_ _) | (with_reducible refine Ext.setCell ?_ ?_ _) | (with_reducible refine Ext.trans ?_ (by assumption)) | go_size)))) hv).mono ?_; rintro e w1 ⟨rfl, hb⟩; have hc := hb.cellE; have hf := hb.frozenE; have hz := hb.size; have ha := alloc_keeps w1; (try simp only [World.size_alloc] at hc hf hz); (try simp only [World.size_setCell] at hc hf hz); (try simp only [World.size_drew] at hc hf hz))
  ((try simp only [Exit.inBlock, Exit.then]); refine bodyPost_ret (v := .tuple #[.agg #[.slice none 0 0], .int .i64 50]) (by simp [results, Tryd.results33, go_sem, hc]) rfl ?_)
  exact ⟨rfl, by (repeat' (first | (with_reducible assumption) | (with_reducible exact Ext.refl _) | (with_reducible refine Ext.alloc ?_ _) | (with_reducible refine Ext.drew ?_) | (with_reducible refine Ext.drewN ?_ _) | (with_reducible refine Ext.setCell ?_ ?_ _) | (with_reducible refine Ext.trans ?_ (by assumption)) | go_size))⟩
theorem Less_c {w1 w2 : World} {a1 : Option Addr} {l1 : List Int} {n1 : Nat} (c1 : Nat) {v1 : Bool} {a2 : Option Addr} {l2 : List Int} {n2 : Nat} (c2 : Nat) {v2 : Bool} (w : World) (h1 : AA w1 a1 l1 n1 v1) (e1 : Ext w1 w) (h2 : AA w2 a2 l2 n2 v2) (e2 : Ext w2 w) :
    Calls Tryd.prog 33 #[.agg #[.slice a1 n1 c1], .agg #[.slice a2 n2 c2]] w (RetAny w (v1 && v2) (Globe.lessL l1 l2) 50) := by
  replace h1 := h1.ext e1
  replace h2 := h2.ext e2
  cases hq : (v1 && v2)
  · exact (Less_n a1 l1 n1 c1 v1 a2 l2 n2 c2 v2 w h1 h2 hq).mono fun _ _ h => RetAny.no h
  · obtain ⟨rfl, rfl⟩ := Bool.and_eq_true_iff.1 hq
    obtain ⟨b1, o1, rfl, rfl, r1⟩ := h1.va
    obtain ⟨b2, o2, rfl, rfl, r2⟩ := h2.va
    exact (Less_v c1 c2 w r1 (Ext.refl _) r2 (Ext.refl _)).mono fun _ _ h => h.any

/-- By how many columns, within a turn. -/
def modN (k : Int) : Nat := (k % 48).toNat
theorem modN_lt (k : Int) : modN k < 48 := by unfold modN; omega
theorem modN_go (k : Int) : k.tmod 48 % 48 = (modN k : Int) ∧ -47 ≤ k.tmod 48 ∧ k.tmod 48 ≤ 47 := by
  unfold modN
  by_cases h : 0 ≤ k
  · rw [Int.tmod_eq_emod_of_nonneg h]; omega
  · obtain ⟨m, rfl⟩ : ∃ m : Int, k = -m := ⟨-k, by omega⟩
    rw [Int.neg_tmod, Int.tmod_eq_emod_of_nonneg (by omega)]; omega

set_option maxHeartbeats 1000000 in
theorem Shifted_y (b1 o1 c1 : Nat) (l1 : List Int) (k : Int) (w : World) (h1 : VA w b1 o1 l1) :
    Calls Tryd.prog 34 #[.agg #[.slice (some ⟨b1, o1, none⟩) 24 c1], .int .i64 k] w (RetAE w (Globe.shiftL l1 (modN k))) := by
  have H1 := Lib.hid h1; clear h1
  obtain ⟨m0, m1, m2⟩ := modN_go k
  have m4 := modN_lt k
  go_enter Tryd.func34, Tryd.ntmps34
  go_wp2_with (go_at_call 56; refine (mixed_Shifted b1 o1 c1 b1 o1 c1 l1 l1 _ (fun i hi => Ext.cell (by (repeat' (first | (with_reducible assumption) | (with_reducible exact Ext.refl _) | (with_reducible refine Ext.alloc ?_ _) | (with_reducible refine Ext.drew ?_) | (with_reducible refine Ext.drewN ?_ _) | (with_reducible refine Ext.setCell ?_ ?_ _) | (with_reducible refine Ext.trans ?_ (by assumption)) | go_size))) (H1.out.1 i hi)) (fun i hi => Ext.cell (by (repeat' (first | (with_reducible assumption) | (with_reducible exact Ext.refl _) | (with_reducible refine Ext.alloc ?_ _) | (with_reducible refine Ext.drew ?_) | (with_reducible refine Ext.drewN ?_ _) | (with_reducible refine Ext.setCell ?_ ?_ _) | (with_reducible refine Ext.trans ?_ (by assumption)) | go_size))) (H1.out.1 i hi)) H1.out.2 H1.out.2 (modN k) _ m4 (by simp [go_sem])).mono ?_; rintro e w1 ⟨B, rfl, hB, hr, hb⟩; have hc := hb.cellE; have hf := hb.frozenE; have hz := hb.size; have ha := alloc_keeps w1; (try simp only [World.size_alloc] at hc hf hz); (try simp only [World.size_setCell] at hc hf hz); (try simp only [World.size_drew] at hc hf hz))
  ((try simp only [Exit.inBlock, Exit.then]); refine bodyPost_ret (v := .tuple #[.agg #[.slice (some ⟨B, 0, none⟩) 24 24], .int .i64 0]) (by simp [results, Tryd.results34, go_sem, hc]) rfl ?_)
  exact ⟨B, rfl, by first | (simp at hB; omega) | omega, hr.other (by show w.heap.size + 1 ≠ B; (try simp at hB); omega) _, by (repeat' (first | (with_reducible assumption) | (with_reducible exact Ext.refl _) | (with_reducible refine Ext.alloc ?_ _) | (with_reducible refine Ext.drew ?_) | (with_reducible refine Ext.drewN ?_ _) | (with_reducible refine Ext.setCell ?_ ?_ _) | (with_reducible refine Ext.trans ?_ (by assumption)) | go_size))⟩
theorem Shifted_v {w1 : World} {b1 o1 : Nat} (c1 : Nat) {l1 : List Int} (k : Int) (w : World) (h1 : VA w1 b1 o1 l1) (e1 : Ext w1 w) :
    Calls Tryd.prog 34 #[.agg #[.slice (some ⟨b1, o1, none⟩) 24 c1], .int .i64 k] w (RetV w (Globe.shiftL l1 (modN k))) :=
  (Shifted_y b1 o1 c1 l1 k w (h1.ext e1)).mono fun _ _ h => h.v (Globe.shift_valid _ _)
set_option maxHeartbeats 1000000 in
theorem Shifted_n (a1 : Option Addr) (l1 : List Int) (n1 c1 : Nat) (k : Int) (w : World) (h1 : AA w a1 l1 n1 false) :
    Calls Tryd.prog 34 #[.agg #[.slice a1 n1 c1], .int .i64 k] w (RetErr w 50) := by
  obtain ⟨m0, m1, m2⟩ := modN_go k
  go_enter Tryd.func34, Tryd.ntmps34
  go_wp2_with (go_at_call 56; refine (mixed_no _ _ l1 _ _ false _ l1 _ _ false _ (h1.ext (by (repeat' (first | (with_reducible assumption) | (with_reducible exact Ext.refl _) | (with_reducible refine Ext.alloc ?_ _) | (with_reducible refine Ext.drew ?_) | (with_reducible refine Ext.drewN ?_ _) | (with_reducible refine Ext.setCell ?_ ?_ _) | (with_reducible refine Ext.trans ?_ (by assumption)) | go_size)))) (h1.ext (by (repeat' (first | (with_reducible assumption) | (with_reducible exact Ext.refl _) | (with_reducible refine Ext.alloc ?_ _) | (with_reducible refine Ext.drew ?_) | (with_reducible refine Ext.drewN ?_ _) | (with_reducible refine Ext.setCell ?_ ?_ _) | (with_reducible refine Ext.trans ?_ (by assumption)) | go_size)))) rfl).mono ?_; rintro e w1 ⟨rfl, hb⟩; have hc := hb.cellE; have hf := hb.frozenE; have hz := hb.size; have ha := alloc_keeps w1; (try simp only [World.size_alloc] at hc hf hz); (try simp only [World.size_setCell] at hc hf hz); (try simp only [World.size_drew] at hc hf hz))
  ((try simp only [Exit.inBlock, Exit.then]); refine bodyPost_ret (v := .tuple #[.agg #[.slice none 0 0], .int .i64 50]) (by simp [results, Tryd.results34, go_sem, hc]) rfl ?_)
  exact ⟨rfl, by (repeat' (first | (with_reducible assumption) | (with_reducible exact Ext.refl _) | (with_reducible refine Ext.alloc ?_ _) | (with_reducible refine Ext.drew ?_) | (with_reducible refine Ext.drewN ?_ _) | (with_reducible refine Ext.setCell ?_ ?_ _) | (with_reducible refine Ext.trans ?_ (by assumption)) | go_size))⟩
theorem Shifted_c {w1 : World} {a1 : Option Addr} {l1 : List Int} {n1 : Nat} (c1 : Nat) {v1 : Bool} (k : Int) (w : World) (h1 : AA w1 a1 l1 n1 v1) (e1 : Ext w1 w) :
    Calls Tryd.prog 34 #[.agg #[.slice a1 n1 c1], .int .i64 k] w (RetAny w v1 (Globe.shiftL l1 (modN k)) 50) := by
  replace h1 := h1.ext e1
  cases v1
  · exact (Shifted_n a1 l1 n1 c1 k w h1).mono fun _ _ h => RetAny.no h
  · obtain ⟨b1, o1, rfl, rfl, r1⟩ := h1.va
    exact (Shifted_v c1 k w r1 (Ext.refl _)).mono fun _ _ h => h.any

end Go.Proofs.YtglfoglkdbbmmaaDoor
