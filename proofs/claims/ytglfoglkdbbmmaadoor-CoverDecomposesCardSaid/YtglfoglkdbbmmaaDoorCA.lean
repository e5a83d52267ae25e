/- Contracts of package cover: less, copied, Valid. Strips in memory. -/
import Derived.Test.YtglfoglkdbbmmaaDoorGC
import Derived.Test.YtglfoglkdbbmmaaDoorWM
import Derived.Test.YtglfoglkdbbmmaaDoorMD
import Derived.Test.YtglfoglkdbbmmaaDoorGX
namespace Go.Proofs.YtglfoglkdbbmmaaDoor
open Go.RowKit

/-- An area alone: fresh, or of any place. -/
def RetF (w : World) (L : List Int) (e : Ending) (w' : World) : Prop :=
  ∃ B k : Nat, e = .returned (.agg #[.slice (some ⟨B, 0, none⟩) 24 k]) ∧ w.heap.size ≤ B ∧ VA w' B 0 L ∧ Ext w w'
def RetO (w : World) (b : Nat) (L : List Int) (e : Ending) (w' : World) : Prop :=
  ∃ B o k : Nat, e = .returned (.agg #[.slice (some ⟨B, o, none⟩) 24 k]) ∧ VA w' B o L ∧ (B = b ∨ w.heap.size ≤ B) ∧ Ext w w'
theorem VA.other {w : World} {b o : Nat} {l : List Int} (h : VA w b o l) {p : Addr} (hp : p.block ≠ b) (v : Value) : VA (w.setCell p v) b o l :=
  ⟨fun i hi => by rw [World.cell?_setCell_other w _ _ _ (fun e => hp (by rw [e]))]; exact h.1 i hi, h.2⟩

set_option maxHeartbeats 1000000 in
theorem less_v {w1 w2 : World} {b1 o1 b2 o2 : Nat} (c1 c2 : Nat) {l1 l2 : List Int} (w : World) (h1 : VA w1 b1 o1 l1) (e1 : Ext w1 w) (h2 : VA w2 b2 o2 l2) (e2 : Ext w2 w) :
    Calls Tryd.prog 42 #[.agg #[.slice (some ⟨b1, o1, none⟩) 24 c1], .agg #[.slice (some ⟨b2, o2, none⟩) 24 c2]] w (RetF w (Globe.lessL l1 l2)) := by
  have H1 := Lib.hid (h1.ext e1)
  have H2 := Lib.hid (h2.ext e2)
  clear h1 h2 e1 e2
  go_enter Tryd.func42, Tryd.ntmps42
  go_wp2_with (go_at_call 33; refine (Less_v _ _ _ H1.out (by (repeat' (first | (with_reducible assumption) | (with_reducible exact Ext.refl _) | (with_reducible refine Ext.alloc ?_ _) | (with_reducible refine Ext.drew ?_) | (with_reducible refine Ext.drewN ?_ _) | (with_reducible refine Ext.setCell ?_ ?_ _) | (with_reducible refine Ext.trans ?_ (by assumption)) | go_size))) H2.out (by (repeat' (first | (with_reducible assumption) | (with_reducible exact Ext.refl _) | (with_reducible refine Ext.alloc ?_ _) | (with_reducible refine Ext.drew ?_) | (with_reducible refine Ext.drewN ?_ _) | (with_reducible refine Ext.setCell ?_ ?_ _) | (with_reducible refine Ext.trans ?_ (by assumption)) | go_size)))).mono ?_; rintro e w1 ⟨B, k, rfl, hB, -, hv, hb⟩; have hc := hb.cellE; have hf := hb.frozenE; have hz := hb.size; have ha := alloc_keeps w1; (try simp only [World.size_alloc] at hc hf hz); (try simp only [World.size_setCell] at hc hf hz); (try simp only [World.size_drew] at hc hf hz))
  have hB2 : w.heap.size + 1 + 1 < B := by simp at hB; omega
  refine bodyPost_ret (v := .agg #[.slice (some ⟨B, 0, none⟩) 24 k]) (by simp [results, Tryd.results42, go_sem, hc, ha]) rfl ⟨B, k, rfl, by omega, ?_, by (repeat' (first | (with_reducible assumption) | (with_reducible exact Ext.refl _) | (with_reducible refine Ext.alloc ?_ _) | (with_reducible refine Ext.drew ?_) | (with_reducible refine Ext.drewN ?_ _) | (with_reducible refine Ext.setCell ?_ ?_ _) | (with_reducible refine Ext.trans ?_ (by assumption)) | go_size))⟩
  refine VA.other (hv.ext (by (repeat' (first | (with_reducible assumption) | (with_reducible exact Ext.refl _) | (with_reducible refine Ext.alloc ?_ _) | (with_reducible refine Ext.drew ?_) | (with_reducible refine Ext.drewN ?_ _) | (with_reducible refine Ext.setCell ?_ ?_ _) | (with_reducible refine Ext.trans ?_ (by assumption)) | go_size)))) (by show w.heap.size + 1 + 1 ≠ B; omega) _

set_option maxHeartbeats 1000000 in
theorem copied_v {w0 : World} {b o : Nat} (c : Nat) {l : List Int} (w : World) (h : VA w0 b o l) (hE : Ext w0 w) :
    Calls Tryd.prog 40 #[.agg #[.slice (some ⟨b, o, none⟩) 24 c]] w (RetF w l) := by
  have H := Lib.hid (h.ext hE)
  clear h hE
  go_enter Tryd.func40, Tryd.ntmps40
  go_wp2_with (go_at_call 66; refine (Clone_v _ _ H.out (by (repeat' (first | (with_reducible assumption) | (with_reducible exact Ext.refl _) | (with_reducible refine Ext.alloc ?_ _) | (with_reducible refine Ext.drew ?_) | (with_reducible refine Ext.drewN ?_ _) | (with_reducible refine Ext.setCell ?_ ?_ _) | (with_reducible refine Ext.trans ?_ (by assumption)) | go_size)))).mono ?_; rintro e w1 ⟨B, k, rfl, hB, hr, hb⟩; have hc := hb.cellE; have hf := hb.frozenE; have hz := hb.size; have ha := alloc_keeps w1; (try simp only [World.size_alloc] at hc hf hz); (try simp only [World.size_setCell] at hc hf hz); (try simp only [World.size_drew] at hc hf hz))
  have hB2 : w.heap.size + 1 < B := by simp at hB; omega
  refine bodyPost_ret (v := .agg #[.slice (some ⟨B, 0, none⟩) 24 k]) (by simp [results, Tryd.results40, go_sem, hc]) rfl ⟨B, k, rfl, by omega, ?_, by (repeat' (first | (with_reducible assumption) | (with_reducible exact Ext.refl _) | (with_reducible refine Ext.alloc ?_ _) | (with_reducible refine Ext.drew ?_) | (with_reducible refine Ext.drewN ?_ _) | (with_reducible refine Ext.setCell ?_ ?_ _) | (with_reducible refine Ext.trans ?_ (by assumption)) | go_size))⟩
  refine VA.other ((hr.va H.out.2).ext (by (repeat' (first | (with_reducible assumption) | (with_reducible exact Ext.refl _) | (with_reducible refine Ext.alloc ?_ _) | (with_reducible refine Ext.drew ?_) | (with_reducible refine Ext.drewN ?_ _) | (with_reducible refine Ext.setCell ?_ ?_ _) | (with_reducible refine Ext.trans ?_ (by assumption)) | go_size)))) (by show w.heap.size + 1 ≠ B; omega) _

/-- A strip in memory, and a slice of them. -/
def StripAt (w : World) (b i : Nat) (s : List Int × List Int) : Prop :=
  ∃ (a1 : Option Addr) (n1 c1 : Nat) (v1 : Bool) (a2 : Option Addr) (n2 c2 : Nat) (v2 : Bool), w.cell? ⟨b, i, none⟩ = some (.slice a1 n1 c1) ∧ AA w a1 s.1 n1 v1 ∧ w.cell? ⟨b, i + 1, none⟩ = some (.slice a2 n2 c2) ∧ AA w a2 s.2 n2 v2
theorem StripAt.ext {w w' : World} {b i : Nat} {s : List Int × List Int} (h : StripAt w b i s) (hE : Ext w w') : StripAt w' b i s := by
  obtain ⟨a1, n1, c1, v1, a2, n2, c2, v2, h1, h2, h3, h4⟩ := h
  exact ⟨a1, n1, c1, v1, a2, n2, c2, v2, hE.cell h1, h2.ext hE, hE.cell h3, h4.ext hE⟩
def StripsAt (w : World) (a : Option Addr) (n : Nat) (ss : List (List Int × List Int)) : Prop :=
  ss.length = n ∧ n ≤ 140737488355328 ∧ (n = 0 ∨ ∃ b off, a = some ⟨b, off, none⟩ ∧ ∀ i s, ss[i]? = some s → StripAt w b (off + i * 2) s)
theorem StripsAt.ext {w w' : World} {a : Option Addr} {n : Nat} {ss : List (List Int × List Int)} (h : StripsAt w a n ss) (hE : Ext w w') : StripsAt w' a n ss :=
  ⟨h.1, h.2.1, h.2.2.imp id fun ⟨b, off, ha, hc⟩ => ⟨b, off, ha, fun i s hs => (hc i s hs).ext hE⟩⟩
theorem StripsAt.at {w : World} {a : Option Addr} {n : Nat} {ss : List (List Int × List Int)} (h : StripsAt w a n ss) {i : Nat} (hi : i < n) :
    ∃ b off s, a = some ⟨b, off, none⟩ ∧ ss[i]? = some s ∧ StripAt w b (off + i * 2) s := by
  obtain ⟨b, off, rfl, hc⟩ := h.2.2.resolve_left (by omega)
  have hs : ss[i]? = some (ss[i]'(by rw [h.1]; exact hi)) := List.getElem?_eq_getElem _
  exact ⟨b, off, _, rfl, hs, hc i _ hs⟩

theorem ValidS1_t {w1 w2 : World} {a1 a2 : Option Addr} {l1 l2 : List Int} {n1 n2 : Nat} {v1 v2 : Bool} (c1 c2 : Nat) (w : World) (h1 : AA w1 a1 l1 n1 v1) (e1 : Ext w1 w) (h2 : AA w2 a2 l2 n2 v2) (e2 : Ext w2 w) :
    Calls Tryd.prog 48 #[.agg #[.slice a1 n1 c1, .slice a2 n2 c2]] w fun e w' => e = .returned (.bool (!Globe.stripOk (l1, l2))) ∧ Ext w w' := by
  replace h1 := h1.ext e1
  replace h2 := h2.ext e2
  clear e1 e2
  cases v1
  · have hq : Globe.stripOk (l1, l2) = false := by simp [Globe.stripOk, h1.2.2.2]
    have Hq := Lib.hid hq; clear hq
    go_enter Tryd.func48, Tryd.ntmps48
    go_wp2_with (go_at_call 38; refine (Valid_e _ _ h1 (by (repeat' (first | (with_reducible assumption) | (with_reducible exact Ext.refl _) | (with_reducible refine Ext.alloc ?_ _) | (with_reducible refine Ext.drew ?_) | (with_reducible refine Ext.drewN ?_ _) | (with_reducible refine Ext.setCell ?_ ?_ _) | (with_reducible refine Ext.trans ?_ (by assumption)) | go_size)))).mono ?_; rintro e w1 ⟨rfl, hb⟩; have hc := hb.cellE; have hf := hb.frozenE; have hz := hb.size; have ha := alloc_keeps w1; (try simp only [World.size_alloc] at hc hf hz); (try simp only [World.size_setCell] at hc hf hz); (try simp only [World.size_drew] at hc hf hz))
    go_ret
    exact ⟨ret_bool (by rw [Hq.out]; rfl), by (repeat' (first | (with_reducible assumption) | (with_reducible exact Ext.refl _) | (with_reducible refine Ext.alloc ?_ _) | (with_reducible refine Ext.drew ?_) | (with_reducible refine Ext.drewN ?_ _) | (with_reducible refine Ext.setCell ?_ ?_ _) | (with_reducible refine Ext.trans ?_ (by assumption)) | go_size))⟩
  · cases hc2 : Globe.containsB l2 l1
    all_goals
      have hq : Globe.stripOk (l1, l2) = Globe.containsB l2 l1 := by simp [Globe.stripOk, h1.2.2.2]
      rw [hc2] at hq
      have Hq := Lib.hid hq; clear hq
      have Hc := Lib.hid hc2; clear hc2
      go_enter Tryd.func48, Tryd.ntmps48
      go_wp2_with (first | (go_at_call 38; refine (Valid_e _ _ h1 (by (repeat' (first | (with_reducible assumption) | (with_reducible exact Ext.refl _) | (with_reducible refine Ext.alloc ?_ _) | (with_reducible refine Ext.drew ?_) | (with_reducible refine Ext.drewN ?_ _) | (with_reducible refine Ext.setCell ?_ ?_ _) | (with_reducible refine Ext.trans ?_ (by assumption)) | go_size)))).mono ?_; rintro e w1 ⟨rfl, hb⟩; have hc := hb.cellE; have hf := hb.frozenE; have hz := hb.size; have ha := alloc_keeps w1; (try simp only [World.size_alloc] at hc hf hz); (try simp only [World.size_setCell] at hc hf hz); (try simp only [World.size_drew] at hc hf hz)) | (go_at_call 32; refine (Contains_c _ _ _ h2 (by (repeat' (first | (with_reducible assumption) | (with_reducible exact Ext.refl _) | (with_reducible refine Ext.alloc ?_ _) | (with_reducible refine Ext.drew ?_) | (with_reducible refine Ext.drewN ?_ _) | (with_reducible refine Ext.setCell ?_ ?_ _) | (with_reducible refine Ext.trans ?_ (by assumption)) | go_size))) h1 (by (repeat' (first | (with_reducible assumption) | (with_reducible exact Ext.refl _) | (with_reducible refine Ext.alloc ?_ _) | (with_reducible refine Ext.drew ?_) | (with_reducible refine Ext.drewN ?_ _) | (with_reducible refine Ext.setCell ?_ ?_ _) | (with_reducible refine Ext.trans ?_ (by assumption)) | go_size)))).mono ?_; rintro e w2 ⟨rfl, hb2⟩; rw [Hc.out]))
      go_ret
      exact ⟨ret_bool (by rw [Hq.out]; rfl), by (repeat' (first | (with_reducible assumption) | (with_reducible exact Ext.refl _) | (with_reducible refine Ext.alloc ?_ _) | (with_reducible refine Ext.drew ?_) | (with_reducible refine Ext.drewN ?_ _) | (with_reducible refine Ext.setCell ?_ ?_ _) | (with_reducible refine Ext.trans ?_ (by assumption)) | go_size))⟩

end Go.Proofs.YtglfoglkdbbmmaaDoor
