/- Part 2 of what the proof of CoverMatchesReference stands on. -/
import Derived.Test.YtglfoglkdbbmmaaDoorV1CoverMatchesReference
import Derived.RangeFuncNested
import Derived.RangeFuncBound
import Derived.RangeFuncCalls
import Derived.RangeFuncLeaves
import Derived.RangeFuncBox
import Derived.Shelf.Abstract
import Derived.Shelf.RegionOpen
import Derived.OwnWalkIn
import Derived.TacticsInMore
import Derived.LoopNIn
import Derived.LoopIn
import Derived.Deep.RegionHeld3
import Derived.ArgAppend
import Derived.Stop.RegionWithIn
import Derived.Laws.Bits64b
/- Contracts of package cover: less, copied, Valid. Strips in memory. -/
namespace Go.Proofs.YtglfoglkdbbmmaaDoor
open Go.RowKit

/-- An area alone: fresh, or of any place. -/
def RetF (w : World) (L : List Int) (e : Ending) (w' : World) : Prop :=
  ∃ B k : Nat, e = .returned (.agg #[.slice (some ⟨B, 0, none⟩) 24 k]) ∧ w.heap.size ≤ B ∧ VA w' B 0 L ∧ Ext w w'
def RetO (w : World) (b : Nat) (L : List Int) (e : Ending) (w' : World) : Prop :=
  ∃ B o k : Nat, e = .returned (.agg #[.slice (some ⟨B, o, none⟩) 24 k]) ∧ VA w' B o L ∧ (B = b ∨ w.heap.size ≤ B) ∧ Ext w w'
theorem VA.other {w : World} {b o : Nat} {l : List Int} (h : VA w b o l) {p : Addr} (hp : p.block ≠ b) (v : Value) : VA (w.setCell p v) b o l :=
  ⟨fun i hi => by rw [World.cell?_setCell_other w _ _ _ (fun e => hp (by rw [e]))]; exact h.1 i hi, h.2⟩

set_option maxHeartbeats 1000000 in
theorem less_v {w1 w2 : World} {b1 o1 b2 o2 : Nat} (c1 c2 : Nat) {l1 l2 : List Int} (w : World) (h1 : VA w1 b1 o1 l1) (e1 : Ext w1 w) (h2 : VA w2 b2 o2 l2) (e2 : Ext w2 w) :
    Calls Tryd.prog 42 #[.agg #[.slice (some ⟨b1, o1, none⟩) 24 c1], .agg #[.slice (some ⟨b2, o2, none⟩) 24 c2]] w (RetF w (Globe.lessL l1 l2)) := by
  have H1 := Lib.hid (h1.ext e1)
  have H2 := Lib.hid (h2.ext e2)
  clear h1 h2 e1 e2
  go_enter Tryd.func42, Tryd.ntmps42
  go_wp2_with (go_at_call 33; refine (Less_v _ _ _ H1.out (by (repeat' (first | (with_reducible assumption) | (with_reducible exact Ext.refl _) | (with_reducible refine Ext.alloc ?_ _) | (with_reducible refine Ext.drew ?_) | (with_reducible refine Ext.drewN ?_ _) | (with_reducible refine Ext.setCell ?_ ?_ _) | (with_reducible refine Ext.trans ?_ (by assumption)) | go_size))) H2.out (by (repeat' (first | (with_reducible assumption) | (with_reducible exact Ext.refl _) | (with_reducible refine Ext.alloc ?_ _) | (with_reducible refine Ext.drew ?_) | (with_reducible refine Ext.drewN ?_ _) | (with_reducible refine Ext.setCell ?_ ?_ _) | (with_reducible refine Ext.trans ?_ (by assumption)) | go_size)))).mono ?_; rintro e w1 ⟨B, k, rfl, hB, -, hv, hb⟩; have hc := hb.cellE; have hf := hb.frozenE; have hz := hb.size; have ha := alloc_keeps w1; (try simp only [World.size_alloc] at hc hf hz); (try simp only [World.size_setCell] at hc hf hz); (try simp only [World.size_drew] at hc hf hz))
  have hB2 : w.heap.size + 1 + 1 < B := by simp at hB; omega
  refine bodyPost_ret (v := .agg #[.slice (some ⟨B, 0, none⟩) 24 k]) (by simp [results, Tryd.results42, go_sem, hc, ha]) rfl ⟨B, k, rfl, by omega, ?_, by (repeat' (first | (with_reducible assumption) | (with_reducible exact Ext.refl _) | (with_reducible refine Ext.alloc ?_ _) | (with_reducible refine Ext.drew ?_) | (with_reducible refine Ext.drewN ?_ _) | (with_reducible refine Ext.setCell ?_ ?_ _) | (with_reducible refine Ext.trans ?_ (by assumption)) | go_size))⟩
  refine VA.other (hv.ext (by (repeat' (first | (with_reducible assumption) | (with_reducible exact Ext.refl _) | (with_reducible refine Ext.alloc ?_ _) | (with_reducible refine Ext.drew ?_) | (with_reducible refine Ext.drewN ?_ _) | (with_reducible refine Ext.setCell ?_ ?_ _) | (with_reducible refine Ext.trans ?_ (by assumption)) | go_size)))) (by show w.heap.size + 1 + 1 ≠ B; omega) _

set_option maxHeartbeats 1000000 in
theorem copied_v {w0 : World} {b o : Nat} (c : Nat) {l : List Int} (w : World) (h : VA w0 b o l) (hE : Ext w0 w) :
    Calls Tryd.prog 40 #[.agg #[.slice (some ⟨b, o, none⟩) 24 c]] w (RetF w l) := by
  have H := Lib.hid (h.ext hE)
  clear h hE
  go_enter Tryd.func40, Tryd.ntmps40
  go_wp2_with (go_at_call 66; refine (Clone_v _ _ H.out (by (repeat' (first | (with_reducible assumption) | (with_reducible exact Ext.refl _) | (with_reducible refine Ext.alloc ?_ _) | (with_reducible refine Ext.drew ?_) | (with_reducible refine Ext.drewN ?_ _) | (with_reducible refine Ext.setCell ?_ ?_ _) | (with_reducible refine Ext.trans ?_ (by assumption)) | go_size)))).mono ?_; rintro e w1 ⟨B, k, rfl, hB, hr, hb⟩; have hc := hb.cellE; have hf := hb.frozenE; have hz := hb.size; have ha := alloc_keeps w1; (try simp only [World.size_alloc] at hc hf hz); (try simp only [World.size_setCell] at hc hf hz); (try simp only [World.size_drew] at hc hf hz))
  have hB2 : w.heap.size + 1 < B := by simp at hB; omega
  refine bodyPost_ret (v := .agg #[.slice (some ⟨B, 0, none⟩) 24 k]) (by simp [results, Tryd.results40, go_sem, hc]) rfl ⟨B, k, rfl, by omega, ?_, by (repeat' (first | (with_reducible assumption) | (with_reducible exact Ext.refl _) | (with_reducible refine Ext.alloc ?_ _) | (with_reducible refine Ext.drew ?_) | (with_reducible refine Ext.drewN ?_ _) | (with_reducible refine Ext.setCell ?_ ?_ _) | (with_reducible refine Ext.trans ?_ (by assumption)) | go_size))⟩
  refine VA.other ((hr.va H.out.2).ext (by (repeat' (first | (with_reducible assumption) | (with_reducible exact Ext.refl _) | (with_reducible refine Ext.alloc ?_ _) | (with_reducible refine Ext.drew ?_) | (with_reducible refine Ext.drewN ?_ _) | (with_reducible refine Ext.setCell ?_ ?_ _) | (with_reducible refine Ext.trans ?_ (by assumption)) | go_size)))) (by show w.heap.size + 1 ≠ B; omega) _

/-- A strip in memory, and a slice of them. -/
def StripAt (w : World) (b i : Nat) (s : List Int × List Int) : Prop :=
  ∃ (a1 : Option Addr) (n1 c1 : Nat) (v1 : Bool) (a2 : Option Addr) (n2 c2 : Nat) (v2 : Bool), w.cell? ⟨b, i, none⟩ = some (.slice a1 n1 c1) ∧ AA w a1 s.1 n1 v1 ∧ w.cell? ⟨b, i + 1, none⟩ = some (.slice a2 n2 c2) ∧ AA w a2 s.2 n2 v2
theorem StripAt.ext {w w' : World} {b i : Nat} {s : List Int × List Int} (h : StripAt w b i s) (hE : Ext w w') : StripAt w' b i s := by
  obtain ⟨a1, n1, c1, v1, a2, n2, c2, v2, h1, h2, h3, h4⟩ := h
  exact ⟨a1, n1, c1, v1, a2, n2, c2, v2, hE.cell h1, h2.ext hE, hE.cell h3, h4.ext hE⟩
def StripsAt (w : World) (a : Option Addr) (n : Nat) (ss : List (List Int × List Int)) : Prop :=
  ss.length = n ∧ n ≤ 140737488355328 ∧ (n = 0 ∨ ∃ b off, a = some ⟨b, off, none⟩ ∧ ∀ i s, ss[i]? = some s → StripAt w b (off + i * 2) s)
theorem StripsAt.ext {w w' : World} {a : Option Addr} {n : Nat} {ss : List (List Int × List Int)} (h : StripsAt w a n ss) (hE : Ext w w') : StripsAt w' a n ss :=
  ⟨h.1, h.2.1, h.2.2.imp id fun ⟨b, off, ha, hc⟩ => ⟨b, off, ha, fun i s hs => (hc i s hs).ext hE⟩⟩
theorem StripsAt.at {w : World} {a : Option Addr} {n : Nat} {ss : List (List Int × List Int)} (h : StripsAt w a n ss) {i : Nat} (hi : i < n) :
    ∃ b off s, a = some ⟨b, off, none⟩ ∧ ss[i]? = some s ∧ StripAt w b (off + i * 2) s := by
  obtain ⟨b, off, rfl, hc⟩ := h.2.2.resolve_left (by omega)
  have hs : ss[i]? = some (ss[i]'(by rw [h.1]; exact hi)) := List.getElem?_eq_getElem _
  exact ⟨b, off, _, rfl, hs, hc i _ hs⟩

theorem ValidS1_t {w1 w2 : World} {a1 a2 : Option Addr} {l1 l2 : List Int} {n1 n2 : Nat} {v1 v2 : Bool} (c1 c2 : Nat) (w : World) (h1 : AA w1 a1 l1 n1 v1) (e1 : Ext w1 w) (h2 : AA w2 a2 l2 n2 v2) (e2 : Ext w2 w) :
    Calls Tryd.prog 48 #[.agg #[.slice a1 n1 c1, .slice a2 n2 c2]] w fun e w' => e = .returned (.bool (!Globe.stripOk (l1, l2))) ∧ Ext w w' := by
  replace h1 := h1.ext e1
  replace h2 := h2.ext e2
  clear e1 e2
  cases v1
  · have hq : Globe.stripOk (l1, l2) = false := by simp [Globe.stripOk, h1.2.2.2]
    have Hq := Lib.hid hq; clear hq
    go_enter Tryd.func48, Tryd.ntmps48
    go_wp2_with (go_at_call 38; refine (Valid_e _ _ h1 (by (repeat' (first | (with_reducible assumption) | (with_reducible exact Ext.refl _) | (with_reducible refine Ext.alloc ?_ _) | (with_reducible refine Ext.drew ?_) | (with_reducible refine Ext.drewN ?_ _) | (with_reducible refine Ext.setCell ?_ ?_ _) | (with_reducible refine Ext.trans ?_ (by assumption)) | go_size)))).mono ?_; rintro e w1 ⟨rfl, hb⟩; have hc := hb.cellE; have hf := hb.frozenE; have hz := hb.size; have ha := alloc_keeps w1; (try simp only [World.size_alloc] at hc hf hz); (try simp only [World.size_setCell] at hc hf hz); (try simp only [World.size_drew] at hc hf hz))
    go_ret
    exact ⟨ret_bool (by rw [Hq.out]; rfl), by (repeat' (first | (with_reducible assumption) | (with_reducible exact Ext.refl _) | (with_reducible refine Ext.alloc ?_ _) | (with_reducible refine Ext.drew ?_) | (with_reducible refine Ext.drewN ?_ _) | (with_reducible refine Ext.setCell ?_ ?_ _) | (with_reducible refine Ext.trans ?_ (by assumption)) | go_size))⟩
  · cases hc2 : Globe.containsB l2 l1
    all_goals
      have hq : Globe.stripOk (l1, l2) = Globe.containsB l2 l1 := by simp [Globe.stripOk, h1.2.2.2]
      rw [hc2] at hq
      have Hq := Lib.hid hq; clear hq
      have Hc := Lib.hid hc2; clear hc2
      go_enter Tryd.func48, Tryd.ntmps48
      go_wp2_with (first | (go_at_call 38; refine (Valid_e _ _ h1 (by (repeat' (first | (with_reducible assumption) | (with_reducible exact Ext.refl _) | (with_reducible refine Ext.alloc ?_ _) | (with_reducible refine Ext.drew ?_) | (with_reducible refine Ext.drewN ?_ _) | (with_reducible refine Ext.setCell ?_ ?_ _) | (with_reducible refine Ext.trans ?_ (by assumption)) | go_size)))).mono ?_; rintro e w1 ⟨rfl, hb⟩; have hc := hb.cellE; have hf := hb.frozenE; have hz := hb.size; have ha := alloc_keeps w1; (try simp only [World.size_alloc] at hc hf hz); (try simp only [World.size_setCell] at hc hf hz); (try simp only [World.size_drew] at hc hf hz)) | (go_at_call 32; refine (Contains_c _ _ _ h2 (by (repeat' (first | (with_reducible assumption) | (with_reducible exact Ext.refl _) | (with_reducible refine Ext.alloc ?_ _) | (with_reducible refine Ext.drew ?_) | (with_reducible refine Ext.drewN ?_ _) | (with_reducible refine Ext.setCell ?_ ?_ _) | (with_reducible refine Ext.trans ?_ (by assumption)) | go_size))) h1 (by (repeat' (first | (with_reducible assumption) | (with_reducible exact Ext.refl _) | (with_reducible refine Ext.alloc ?_ _) | (with_reducible refine Ext.drew ?_) | (with_reducible refine Ext.drewN ?_ _) | (with_reducible refine Ext.setCell ?_ ?_ _) | (with_reducible refine Ext.trans ?_ (by assumption)) | go_size)))).mono ?_; rintro e w2 ⟨rfl, hb2⟩; rw [Hc.out]))
      go_ret
      exact ⟨ret_bool (by rw [Hq.out]; rfl), by (repeat' (first | (with_reducible assumption) | (with_reducible exact Ext.refl _) | (with_reducible refine Ext.alloc ?_ _) | (with_reducible refine Ext.drew ?_) | (with_reducible refine Ext.drewN ?_ _) | (with_reducible refine Ext.setCell ?_ ?_ _) | (with_reducible refine Ext.trans ?_ (by assumption)) | go_size))⟩

end Go.Proofs.YtglfoglkdbbmmaaDoor

/- Contracts of package cover: Valid, fold over strips, Uncovered. -/
namespace Go.Proofs.YtglfoglkdbbmmaaDoor
open Go.RowKit

/-- The first strip that is not valid. -/
def badS (ss : List (List Int × List Int)) : Int := match ss.findIdx? (fun s => !Globe.stripOk s) with | some i => (i : Int) | none => -1
theorem badS_all {ss : List (List Int × List Int)} (h : ∀ (i : Nat) s, ss[i]? = some s → Globe.stripOk s = true) : badS ss = -1 := by
  unfold badS
  rw [List.findIdx?_eq_none_iff.2]
  intro s hs
  obtain ⟨i, hi⟩ := List.getElem?_of_mem hs
  simp [h i s hi]
theorem badS_first {ss : List (List Int × List Int)} {k : Nat} {s : List Int × List Int} (hk : ss[k]? = some s) (hs : Globe.stripOk s = false) (h : ∀ i, i < k → ∀ s, ss[i]? = some s → Globe.stripOk s = true) : badS ss = (k : Int) := by
  unfold badS
  have hl : k < ss.length := by
    rcases Nat.lt_or_ge k ss.length with h1 | h1
    · exact h1
    · rw [List.getElem?_eq_none h1] at hk; cases hk
  rw [List.getElem?_eq_getElem hl] at hk
  cases hk
  rw [(List.findIdx?_eq_some_iff_getElem (xs := ss) (p := fun s => !Globe.stripOk s) (i := k)).2 ⟨hl, by simp [hs], fun j hj => by simp [h j hj _ (List.getElem?_eq_getElem (by omega))]⟩]
theorem badS_no {ss : List (List Int × List Int)} (h : ss.all Globe.stripOk = false) : 0 ≤ badS ss := by
  unfold badS
  cases hq : ss.findIdx? (fun s => !Globe.stripOk s) with
  | some i => simp
  | none =>
    rw [List.findIdx?_eq_none_iff] at hq
    rw [List.all_eq_false] at h
    obtain ⟨s, hs, h⟩ := h
    have := hq s hs
    simp at this; exact absurd this h
theorem badS_yes {ss : List (List Int × List Int)} (h : ss.all Globe.stripOk = true) : badS ss = -1 :=
  badS_all fun _ s hs => List.all_eq_true.1 h s (List.mem_of_getElem? hs)

set_option maxHeartbeats 1000000 in
theorem IndexFuncS_c {w0 : World} {a : Option Addr} {n : Nat} {ss : List (List Int × List Int)} (c : Nat) (w : World) (h : StripsAt w0 a n ss) (hE0 : Ext w0 w) :
    Calls Tryd.prog 69 #[.slice a n c, .func (.func 48) #[] #[]] w fun e w' => e = .returned (.int .i64 (badS ss)) ∧ Ext w w' := by
  have H := Lib.hid (h.ext hE0)
  clear h hE0
  have hn := H.out.2.1
  go_enter Tryd.func69, Tryd.ntmps69
  go_wp2_with fail
  go_loopw [5, 8] (fun _ i wr => ∃ k : Nat, k ≤ n ∧ i = .int .i64 k ∧ Hid (∀ j, j < k → ∀ s, ss[j]? = some s → Globe.stripOk s = true) ∧ Ext w wr) (fun _ i _ => n - (intOf i).toNat)
  case atStart => exact ⟨0, by omega, rfl, fun j hj => by omega, Ext.refl _⟩
  case round =>
    obtain ⟨k, hk, rfl, Hp, hE⟩ := hrel
    by_cases hlt : k < n
    · obtain ⟨b, off, s, rfl, hs, a1, n1, c1, v1, a2, n2, c2, v2, h1, g1, h2, g2⟩ := H.out.at hlt
      have hsp : (s.1, s.2) = s := rfl
      replace h1 := hE.cell h1; replace h2 := hE.cell h2
      have k0 : (0 : Int) ≤ (k : Int) := by omega
      have k1 : (k : Int) < (n : Int) := by omega
      have Hs := Lib.hid hs; clear hs
      cases hq : Globe.stripOk s
      all_goals
        have Hq := Lib.hid hq; clear hq
        go_wp2_with (go_at_call 48; refine (ValidS1_t _ _ _ g1 (hE.trans (by (repeat' (first | (with_reducible assumption) | (with_reducible exact Ext.refl _) | (with_reducible refine Ext.alloc ?_ _) | (with_reducible refine Ext.drew ?_) | (with_reducible refine Ext.drewN ?_ _) | (with_reducible refine Ext.setCell ?_ ?_ _) | (with_reducible refine Ext.trans ?_ (by assumption)) | go_size)))) g2 (hE.trans (by (repeat' (first | (with_reducible assumption) | (with_reducible exact Ext.refl _) | (with_reducible refine Ext.alloc ?_ _) | (with_reducible refine Ext.drew ?_) | (with_reducible refine Ext.drewN ?_ _) | (with_reducible refine Ext.setCell ?_ ?_ _) | (with_reducible refine Ext.trans ?_ (by assumption)) | go_size))))).mono ?_; rintro e w1 ⟨rfl, hb⟩; rw [hsp, Hq.out])
      · go_ret
        exact ⟨ret_int (badS_first Hs.out Hq.out Hp.out).symm, hE.trans hb⟩
      · go_roundw
        case rel => exact ⟨k + 1, by omega, by go_num, fun j hj s' hs' => by
          rcases Nat.lt_or_ge j k with h | h
          · exact Hp.out j h s' hs'
          · rw [show j = k by omega, Hs.out] at hs'; cases hs'; exact Hq.out, hE.trans hb⟩
        case measure => simp [intOf]; omega
    · obtain rfl : k = n := by omega
      go_wp2_with fail
      go_ret
      exact ⟨ret_int (badS_all fun i s hs => Hp.out i (by
        rw [← H.out.1]
        rcases Nat.lt_or_ge i ss.length with h | h
        · exact h
        · rw [List.getElem?_eq_none h] at hs; cases hs) s hs).symm, hE⟩

theorem ContainsFuncS_c {w0 : World} {a : Option Addr} {n : Nat} {ss : List (List Int × List Int)} (c : Nat) (w : World) (h : StripsAt w0 a n ss) (hE0 : Ext w0 w) :
    Calls Tryd.prog 49 #[.slice a n c, .func (.func 48) #[] #[]] w fun e w' => e = .returned (.bool (!ss.all Globe.stripOk)) ∧ Ext w w' := by
  have H := Lib.hid h; clear h
  cases hq : ss.all Globe.stripOk
  · have h1 := badS_no hq
    go_enter Tryd.func49, Tryd.ntmps49
    go_wp2_with (go_at_call 69; refine (IndexFuncS_c _ _ H.out hE0).mono ?_; rintro e w1 ⟨rfl, hb⟩)
    go_ret
    exact ⟨rfl, hb⟩
  · have h1 := badS_yes hq
    go_enter Tryd.func49, Tryd.ntmps49
    go_wp2_with (go_at_call 69; refine (IndexFuncS_c _ _ H.out hE0).mono ?_; rintro e w1 ⟨rfl, hb⟩)
    go_ret
    exact ⟨rfl, hb⟩

theorem ValidS_c {w0 : World} {a : Option Addr} {n : Nat} {ss : List (List Int × List Int)} (c : Nat) (w : World) (h : StripsAt w0 a n ss) (hE0 : Ext w0 w) :
    Calls Tryd.prog 19 #[.slice a n c] w fun e w' => e = .returned (.bool (Globe.stripsOk ss)) ∧ Ext w w' := by
  have hn := h.1
  have hm := h.2.1
  have H := Lib.hid h; clear h
  by_cases h24 : n ≤ 24
  · have hq : Globe.stripsOk ss = ss.all Globe.stripOk := by simp [Globe.stripsOk, hn, h24]
    have Hq := Lib.hid hq; clear hq
    have hd : (n : Int) ≤ 24 := by omega
    clear hn
    go_enter Tryd.func19, Tryd.ntmps19
    go_wp2_with (go_at_call 49; refine (ContainsFuncS_c _ _ H.out hE0).mono ?_; rintro e w1 ⟨rfl, hb⟩)
    go_ret
    exact ⟨ret_bool (by rw [Hq.out]), hb⟩
  · have hq : Globe.stripsOk ss = false := by simp [Globe.stripsOk, hn, h24]
    have Hq := Lib.hid hq; clear hq
    have hd : ¬ (n : Int) ≤ 24 := by omega
    clear hn
    go_enter Tryd.func19, Tryd.ntmps19
    go_wp2_with fail
    go_ret
    exact ⟨ret_bool (by rw [Hq.out]), Ext.refl _⟩
theorem ValidS_r {w0 : World} {a : Option Addr} {n : Nat} {ss : List (List Int × List Int)} {r : Bool} (c : Nat) (w : World) (h : StripsAt w0 a n ss) (hE0 : Ext w0 w) (hr : Globe.stripsOk ss = r) :
    Calls Tryd.prog 19 #[.slice a n c] w fun e w' => e = .returned (.bool r) ∧ Ext w w' := hr ▸ ValidS_c c w h hE0

theorem BoxAt.set {w : World} {b o : Nat} {u : Value} (h : BoxAt w b o u) (v : Value) : BoxAt (w.setCell ⟨b, o, none⟩ v) b o v := by
  obtain ⟨h1, h2⟩ := h
  exact ⟨by simp [go_sem, h1], by simp [go_sem, h2]⟩
/-- What strips leave, where they are valid. -/
theorem okS_at {ss : List (List Int × List Int)} (hv : Globe.stripsOk ss = true) {i : Nat} {s : List Int × List Int} (hs : ss[i]? = some s) : Globe.validL s.1 = true ∧ Globe.validL s.2 = true ∧ Globe.containsB s.2 s.1 = true :=
  Globe.stripOk_v ((Globe.stripsOk_t.1 hv).2 s (List.mem_of_getElem? hs))
theorem StripAt.v {w : World} {b i : Nat} {s : List Int × List Int} (h : StripAt w b i s) (h1 : Globe.validL s.1 = true) (h2 : Globe.validL s.2 = true) :
    ∃ B1 o1 c1 B2 o2 c2, w.cell? ⟨b, i, none⟩ = some (.slice (some ⟨B1, o1, none⟩) 24 c1) ∧ w.cell? ⟨b, i + 1, none⟩ = some (.slice (some ⟨B2, o2, none⟩) 24 c2) ∧ VA w B1 o1 s.1 ∧ VA w B2 o2 s.2 := by
  obtain ⟨a1, n1, c1, v1, a2, n2, c2, v2, q1, g1, q2, g2⟩ := h
  obtain rfl : v1 = true := g1.2.2.2.symm.trans h1
  obtain rfl : v2 = true := g2.2.2.2.symm.trans h2
  obtain ⟨B1, o1, rfl, rfl, r1⟩ := g1.va
  obtain ⟨B2, o2, rfl, rfl, r2⟩ := g2.va
  exact ⟨B1, o1, c1, B2, o2, c2, q1, q2, r1, r2⟩
theorem take_snoc' {α : Type} {l : List α} {i : Nat} {x : α} (h : l[i]? = some x) : l.take (i + 1) = l.take i ++ [x] := by
  rw [List.take_add_one, h]; rfl

set_option maxHeartbeats 1000000 in
theorem Unc1_v {w1 w2 w3 : World} {b o B1 o1 B2 o2 : Nat} (k c1 c2 : Nat) {l l1 l2 : List Int} (w : World) (h : VA w1 b o l) (e1 : Ext w1 w) (h1 : VA w2 B1 o1 l1) (e2 : Ext w2 w) (h2 : VA w3 B2 o2 l2) (e3 : Ext w3 w) :
    Calls Tryd.prog 41 #[.agg #[.slice (some ⟨b, o, none⟩) 24 k], .agg #[.slice (some ⟨B1, o1, none⟩) 24 c1, .slice (some ⟨B2, o2, none⟩) 24 c2]] w (RetF w (Globe.lessL l l2)) := by
  have H := Lib.hid (h.ext e1)
  have H1 := Lib.hid (h1.ext e2)
  have H2 := Lib.hid (h2.ext e3)
  clear h h1 h2 e1 e2 e3
  go_enter Tryd.func41, Tryd.ntmps41
  go_wp2_with (go_at_call 42; refine (less_v _ _ _ H.out (by (repeat' (first | (with_reducible assumption) | (with_reducible exact Ext.refl _) | (with_reducible refine Ext.alloc ?_ _) | (with_reducible refine Ext.drew ?_) | (with_reducible refine Ext.drewN ?_ _) | (with_reducible refine Ext.setCell ?_ ?_ _) | (with_reducible refine Ext.trans ?_ (by assumption)) | go_size))) H2.out (by (repeat' (first | (with_reducible assumption) | (with_reducible exact Ext.refl _) | (with_reducible refine Ext.alloc ?_ _) | (with_reducible refine Ext.drew ?_) | (with_reducible refine Ext.drewN ?_ _) | (with_reducible refine Ext.setCell ?_ ?_ _) | (with_reducible refine Ext.trans ?_ (by assumption)) | go_size)))).mono ?_; rintro e w1 ⟨B, k, rfl, hB, hv, hb⟩; have hc := hb.cellE; have hf := hb.frozenE; have hz := hb.size; have ha := alloc_keeps w1; (try simp only [World.size_alloc] at hc hf hz); (try simp only [World.size_setCell] at hc hf hz); (try simp only [World.size_drew] at hc hf hz))
  have hB2 : w.heap.size + 1 + 1 < B := by simp at hB; omega
  refine bodyPost_ret (v := .agg #[.slice (some ⟨B, 0, none⟩) 24 k]) (by simp [results, Tryd.results41, go_sem, hc]) rfl ⟨B, k, rfl, by omega, ?_, by (repeat' (first | (with_reducible assumption) | (with_reducible exact Ext.refl _) | (with_reducible refine Ext.alloc ?_ _) | (with_reducible refine Ext.drew ?_) | (with_reducible refine Ext.drewN ?_ _) | (with_reducible refine Ext.setCell ?_ ?_ _) | (with_reducible refine Ext.trans ?_ (by assumption)) | go_size))⟩
  refine VA.other (hv.ext (by (repeat' (first | (with_reducible assumption) | (with_reducible exact Ext.refl _) | (with_reducible refine Ext.alloc ?_ _) | (with_reducible refine Ext.drew ?_) | (with_reducible refine Ext.drewN ?_ _) | (with_reducible refine Ext.setCell ?_ ?_ _) | (with_reducible refine Ext.trans ?_ (by assumption)) | go_size)))) (by show w.heap.size + 1 + 1 ≠ B; omega) _

set_option maxHeartbeats 2000000 in
theorem foldU1_v {w1 w2 : World} {a : Option Addr} {n : Nat} {ss : List (List Int × List Int)} {b o : Nat} (c k : Nat) {l : List Int} (w : World) (h : StripsAt w1 a n ss) (e1 : Ext w1 w) (hok : Globe.stripsOk ss = true) (hl : VA w2 b o l) (e2 : Ext w2 w) :
    Calls Tryd.prog 39 #[.slice a n c, .agg #[.slice (some ⟨b, o, none⟩) 24 k], .func (.func 41) #[] #[]] w (RetO w b (Globe.leftL l (ss.map fun s => s.2))) := by
  have H := Lib.hid (h.ext e1)
  have HL := Lib.hid (hl.ext e2)
  have hbl := HL.out.lt
  have hn := H.out.2.1
  have hn1 := H.out.1
  have Hok := Lib.hid hok
  clear h hl e1 e2 hok
  have Hn1 := Lib.hid hn1; clear hn1
  go_enter Tryd.func39, Tryd.ntmps39
  go_wp2_with fail
  go_loopw [11] (fun p wr => ∃ i : Nat, i ≤ n ∧ p = .int .i64 i ∧ Ext w wr ∧ BoxAt wr (w.heap.size + 1) 0 (.slice none 0 0) ∧ ∃ B o' k', BoxAt wr w.heap.size 0 (.slice (some ⟨B, o', none⟩) 24 k') ∧ VA wr B o' (Globe.leftL l ((ss.map fun s => s.2).take i)) ∧ B ≠ w.heap.size ∧ B ≠ w.heap.size + 1 ∧ (B = b ∨ w.heap.size ≤ B)) (fun p _ => n - (intOf p).toNat)
  case atStart => exact ⟨0, by omega, rfl, by (repeat' (first | (with_reducible assumption) | (with_reducible exact Ext.refl _) | (with_reducible refine Ext.alloc ?_ _) | (with_reducible refine Ext.drew ?_) | (with_reducible refine Ext.drewN ?_ _) | (with_reducible refine Ext.setCell ?_ ?_ _) | (with_reducible refine Ext.trans ?_ (by assumption)) | go_size)), ⟨by simp [go_sem], by simp [go_sem]⟩, b, o, k, ⟨by simp [go_sem], by simp [go_sem]⟩, HL.out.ext (by (repeat' (first | (with_reducible assumption) | (with_reducible exact Ext.refl _) | (with_reducible refine Ext.alloc ?_ _) | (with_reducible refine Ext.drew ?_) | (with_reducible refine Ext.drewN ?_ _) | (with_reducible refine Ext.setCell ?_ ?_ _) | (with_reducible refine Ext.trans ?_ (by assumption)) | go_size))), by omega, by omega, .inl rfl⟩
  case round =>
    obtain ⟨i, hi, rfl, hE, hR, B, o', k', hA, hv, hB1, hB2, hB3⟩ := hrel
    obtain ⟨cA, fA⟩ := hA
    obtain ⟨cR, fR⟩ := hR
    have lA := World.block_lt_of_cell? wr _ cA
    have lR := World.block_lt_of_cell? wr _ cR
    by_cases hlt : i < n
    · obtain ⟨b3, off, s, rfl, hs, hst⟩ := H.out.at hlt
      obtain ⟨q1, q2, q3⟩ := okS_at Hok.out hs
      obtain ⟨B1, o1, c1, B2, o2, c2, d1, d2, g1, g2⟩ := hst.v q1 q2
      replace d1 := hE.cell d1; replace d2 := hE.cell d2
      have ld1 := World.block_lt_of_cell? wr _ d1
      have i0 : (0 : Int) ≤ (i : Int) := by omega
      have i1 : (i : Int) < (n : Int) := by omega
      have hsn : Globe.leftL l ((ss.map fun s => s.2).take (i + 1)) = Globe.lessL (Globe.leftL l ((ss.map fun s => s.2).take i)) s.2 := by
        rw [take_snoc' (x := s.2) (by rw [List.getElem?_map, hs]; rfl), Globe.left_snoc]
      have Hsn := Lib.hid hsn; clear hsn hs hst q1 q2 q3
      go_wp2_with (go_at_call 41; refine (Unc1_v _ _ _ _ hv (by (repeat' (first | (with_reducible assumption) | (with_reducible exact Ext.refl _) | (with_reducible refine Ext.alloc ?_ _) | (with_reducible refine Ext.drew ?_) | (with_reducible refine Ext.drewN ?_ _) | (with_reducible refine Ext.setCell ?_ ?_ _) | (with_reducible refine Ext.trans ?_ (by assumption)) | go_size))) (g1.ext hE) (by (repeat' (first | (with_reducible assumption) | (with_reducible exact Ext.refl _) | (with_reducible refine Ext.alloc ?_ _) | (with_reducible refine Ext.drew ?_) | (with_reducible refine Ext.drewN ?_ _) | (with_reducible refine Ext.setCell ?_ ?_ _) | (with_reducible refine Ext.trans ?_ (by assumption)) | go_size))) (g2.ext hE) (by (repeat' (first | (with_reducible assumption) | (with_reducible exact Ext.refl _) | (with_reducible refine Ext.alloc ?_ _) | (with_reducible refine Ext.drew ?_) | (with_reducible refine Ext.drewN ?_ _) | (with_reducible refine Ext.setCell ?_ ?_ _) | (with_reducible refine Ext.trans ?_ (by assumption)) | go_size)))).mono ?_; rintro e w1 ⟨B', k3, rfl, hB', hv', hb⟩; have hc := hb.cellE; have hf := hb.frozenE; have hz := hb.size; have ha := alloc_keeps w1; (try simp only [World.size_alloc] at hc hf hz); (try simp only [World.size_setCell] at hc hf hz); (try simp only [World.size_drew] at hc hf hz))
      go_roundw
      case rel => exact ⟨i + 1, by omega, by go_num, by (repeat' (first | (with_reducible assumption) | (with_reducible exact Ext.refl _) | (with_reducible refine Ext.alloc ?_ _) | (with_reducible refine Ext.drew ?_) | (with_reducible refine Ext.drewN ?_ _) | (with_reducible refine Ext.setCell ?_ ?_ _) | (with_reducible refine Ext.trans ?_ (by assumption)) | go_size)), BoxAt.other (BoxAt.ext (by (repeat' (first | (with_reducible assumption) | (with_reducible exact Ext.refl _) | (with_reducible refine Ext.alloc ?_ _) | (with_reducible refine Ext.drew ?_) | (with_reducible refine Ext.drewN ?_ _) | (with_reducible refine Ext.setCell ?_ ?_ _) | (with_reducible refine Ext.trans ?_ (by assumption)) | go_size))) ⟨cR, fR⟩) (by show w.heap.size ≠ w.heap.size + 1; omega) _, B', 0, k3, BoxAt.set (BoxAt.ext (by (repeat' (first | (with_reducible assumption) | (with_reducible exact Ext.refl _) | (with_reducible refine Ext.alloc ?_ _) | (with_reducible refine Ext.drew ?_) | (with_reducible refine Ext.drewN ?_ _) | (with_reducible refine Ext.setCell ?_ ?_ _) | (with_reducible refine Ext.trans ?_ (by assumption)) | go_size))) ⟨cA, fA⟩) _, by rw [Hsn.out]; exact VA.other (hv'.ext (by (repeat' (first | (with_reducible assumption) | (with_reducible exact Ext.refl _) | (with_reducible refine Ext.alloc ?_ _) | (with_reducible refine Ext.drew ?_) | (with_reducible refine Ext.drewN ?_ _) | (with_reducible refine Ext.setCell ?_ ?_ _) | (with_reducible refine Ext.trans ?_ (by assumption)) | go_size)))) (by show w.heap.size ≠ B'; (try simp at hB'); omega) _, by (try simp at hB'); omega, by (try simp at hB'); omega, .inr (by (try simp at hB'); omega)⟩
      case measure => simp [intOf]; omega
    · obtain rfl : i = n := by omega
      go_wp2_with fail
      refine bodyPost_ret (v := .agg #[.slice (some ⟨B, o', none⟩) 24 k']) (by simp [results, Tryd.results39, go_sem, cR]) rfl ⟨B, o', k', rfl, ?_, hB3, by (repeat' (first | (with_reducible assumption) | (with_reducible exact Ext.refl _) | (with_reducible refine Ext.alloc ?_ _) | (with_reducible refine Ext.drew ?_) | (with_reducible refine Ext.drewN ?_ _) | (with_reducible refine Ext.setCell ?_ ?_ _) | (with_reducible refine Ext.trans ?_ (by assumption)) | go_size))⟩
      rw [List.take_of_length_le (by rw [List.length_map, Hn1.out]; exact Nat.le_refl _)] at hv
      exact VA.other hv (by show w.heap.size + 1 ≠ B; omega) _
set_option maxHeartbeats 1000000 in
theorem Unc2_v {w1 w2 w3 : World} {b o B1 o1 B2 o2 : Nat} (k c1 c2 : Nat) {l l1 l2 : List Int} (w : World) (h : VA w1 b o l) (e1 : Ext w1 w) (h1 : VA w2 B1 o1 l1) (e2 : Ext w2 w) (h2 : VA w3 B2 o2 l2) (e3 : Ext w3 w) :
    Calls Tryd.prog 43 #[.agg #[.slice (some ⟨b, o, none⟩) 24 k], .agg #[.slice (some ⟨B1, o1, none⟩) 24 c1, .slice (some ⟨B2, o2, none⟩) 24 c2]] w (RetF w (Globe.lessL l l1)) := by
  have H := Lib.hid (h.ext e1)
  have H1 := Lib.hid (h1.ext e2)
  have H2 := Lib.hid (h2.ext e3)
  clear h h1 h2 e1 e2 e3
  go_enter Tryd.func43, Tryd.ntmps43
  go_wp2_with (go_at_call 42; refine (less_v _ _ _ H.out (by (repeat' (first | (with_reducible assumption) | (with_reducible exact Ext.refl _) | (with_reducible refine Ext.alloc ?_ _) | (with_reducible refine Ext.drew ?_) | (with_reducible refine Ext.drewN ?_ _) | (with_reducible refine Ext.setCell ?_ ?_ _) | (with_reducible refine Ext.trans ?_ (by assumption)) | go_size))) H1.out (by (repeat' (first | (with_reducible assumption) | (with_reducible exact Ext.refl _) | (with_reducible refine Ext.alloc ?_ _) | (with_reducible refine Ext.drew ?_) | (with_reducible refine Ext.drewN ?_ _) | (with_reducible refine Ext.setCell ?_ ?_ _) | (with_reducible refine Ext.trans ?_ (by assumption)) | go_size)))).mono ?_; rintro e w1 ⟨B, k, rfl, hB, hv, hb⟩; have hc := hb.cellE; have hf := hb.frozenE; have hz := hb.size; have ha := alloc_keeps w1; (try simp only [World.size_alloc] at hc hf hz); (try simp only [World.size_setCell] at hc hf hz); (try simp only [World.size_drew] at hc hf hz))
  have hB2 : w.heap.size + 1 + 1 < B := by simp at hB; omega
  refine bodyPost_ret (v := .agg #[.slice (some ⟨B, 0, none⟩) 24 k]) (by simp [results, Tryd.results43, go_sem, hc]) rfl ⟨B, k, rfl, by omega, ?_, by (repeat' (first | (with_reducible assumption) | (with_reducible exact Ext.refl _) | (with_reducible refine Ext.alloc ?_ _) | (with_reducible refine Ext.drew ?_) | (with_reducible refine Ext.drewN ?_ _) | (with_reducible refine Ext.setCell ?_ ?_ _) | (with_reducible refine Ext.trans ?_ (by assumption)) | go_size))⟩
  refine VA.other (hv.ext (by (repeat' (first | (with_reducible assumption) | (with_reducible exact Ext.refl _) | (with_reducible refine Ext.alloc ?_ _) | (with_reducible refine Ext.drew ?_) | (with_reducible refine Ext.drewN ?_ _) | (with_reducible refine Ext.setCell ?_ ?_ _) | (with_reducible refine Ext.trans ?_ (by assumption)) | go_size)))) (by show w.heap.size + 1 + 1 ≠ B; omega) _

set_option maxHeartbeats 2000000 in
theorem foldU2_v {w1 w2 : World} {a : Option Addr} {n : Nat} {ss : List (List Int × List Int)} {b o : Nat} (c k : Nat) {l : List Int} (w : World) (h : StripsAt w1 a n ss) (e1 : Ext w1 w) (hok : Globe.stripsOk ss = true) (hl : VA w2 b o l) (e2 : Ext w2 w) :
    Calls Tryd.prog 39 #[.slice a n c, .agg #[.slice (some ⟨b, o, none⟩) 24 k], .func (.func 43) #[] #[]] w (RetO w b (Globe.leftL l (ss.map fun s => s.1))) := by
  have H := Lib.hid (h.ext e1)
  have HL := Lib.hid (hl.ext e2)
  have hbl := HL.out.lt
  have hn := H.out.2.1
  have hn1 := H.out.1
  have Hok := Lib.hid hok
  clear h hl e1 e2 hok
  have Hn1 := Lib.hid hn1; clear hn1
  go_enter Tryd.func39, Tryd.ntmps39
  go_wp2_with fail
  go_loopw [11] (fun p wr => ∃ i : Nat, i ≤ n ∧ p = .int .i64 i ∧ Ext w wr ∧ BoxAt wr (w.heap.size + 1) 0 (.slice none 0 0) ∧ ∃ B o' k', BoxAt wr w.heap.size 0 (.slice (some ⟨B, o', none⟩) 24 k') ∧ VA wr B o' (Globe.leftL l ((ss.map fun s => s.1).take i)) ∧ B ≠ w.heap.size ∧ B ≠ w.heap.size + 1 ∧ (B = b ∨ w.heap.size ≤ B)) (fun p _ => n - (intOf p).toNat)
  case atStart => exact ⟨0, by omega, rfl, by (repeat' (first | (with_reducible assumption) | (with_reducible exact Ext.refl _) | (with_reducible refine Ext.alloc ?_ _) | (with_reducible refine Ext.drew ?_) | (with_reducible refine Ext.drewN ?_ _) | (with_reducible refine Ext.setCell ?_ ?_ _) | (with_reducible refine Ext.trans ?_ (by assumption)) | go_size)), ⟨by simp [go_sem], by simp [go_sem]⟩, b, o, k, ⟨by simp [go_sem], by simp [go_sem]⟩, HL.out.ext (by (repeat' (first | (with_reducible assumption) | (with_reducible exact Ext.refl _) | (with_reducible refine Ext.alloc ?_ _) | (with_reducible refine Ext.drew ?_) | (with_reducible refine Ext.drewN ?_ _) | (with_reducible refine Ext.setCell ?_ ?_ _) | (with_reducible refine Ext.trans ?_ (by assumption)) | go_size))), by omega, by omega, .inl rfl⟩
  case round =>
    obtain ⟨i, hi, rfl, hE, hR, B, o', k', hA, hv, hB1, hB2, hB3⟩ := hrel
    obtain ⟨cA, fA⟩ := hA
    obtain ⟨cR, fR⟩ := hR
    have lA := World.block_lt_of_cell? wr _ cA
    have lR := World.block_lt_of_cell? wr _ cR
    by_cases hlt : i < n
    · obtain ⟨b3, off, s, rfl, hs, hst⟩ := H.out.at hlt
      obtain ⟨q1, q2, q3⟩ := okS_at Hok.out hs
      obtain ⟨B1, o1, c1, B2, o2, c2, d1, d2, g1, g2⟩ := hst.v q1 q2
      replace d1 := hE.cell d1; replace d2 := hE.cell d2
      have ld1 := World.block_lt_of_cell? wr _ d1
      have i0 : (0 : Int) ≤ (i : Int) := by omega
      have i1 : (i : Int) < (n : Int) := by omega
      have hsn : Globe.leftL l ((ss.map fun s => s.1).take (i + 1)) = Globe.lessL (Globe.leftL l ((ss.map fun s => s.1).take i)) s.1 := by
        rw [take_snoc' (x := s.1) (by rw [List.getElem?_map, hs]; rfl), Globe.left_snoc]
      have Hsn := Lib.hid hsn; clear hsn hs hst q1 q2 q3
      go_wp2_with (go_at_call 43; refine (Unc2_v _ _ _ _ hv (by (repeat' (first | (with_reducible assumption) | (with_reducible exact Ext.refl _) | (with_reducible refine Ext.alloc ?_ _) | (with_reducible refine Ext.drew ?_) | (with_reducible refine Ext.drewN ?_ _) | (with_reducible refine Ext.setCell ?_ ?_ _) | (with_reducible refine Ext.trans ?_ (by assumption)) | go_size))) (g1.ext hE) (by (repeat' (first | (with_reducible assumption) | (with_reducible exact Ext.refl _) | (with_reducible refine Ext.alloc ?_ _) | (with_reducible refine Ext.drew ?_) | (with_reducible refine Ext.drewN ?_ _) | (with_reducible refine Ext.setCell ?_ ?_ _) | (with_reducible refine Ext.trans ?_ (by assumption)) | go_size))) (g2.ext hE) (by (repeat' (first | (with_reducible assumption) | (with_reducible exact Ext.refl _) | (with_reducible refine Ext.alloc ?_ _) | (with_reducible refine Ext.drew ?_) | (with_reducible refine Ext.drewN ?_ _) | (with_reducible refine Ext.setCell ?_ ?_ _) | (with_reducible refine Ext.trans ?_ (by assumption)) | go_size)))).mono ?_; rintro e w1 ⟨B', k3, rfl, hB', hv', hb⟩; have hc := hb.cellE; have hf := hb.frozenE; have hz := hb.size; have ha := alloc_keeps w1; (try simp only [World.size_alloc] at hc hf hz); (try simp only [World.size_setCell] at hc hf hz); (try simp only [World.size_drew] at hc hf hz))
      go_roundw
      case rel => exact ⟨i + 1, by omega, by go_num, by (repeat' (first | (with_reducible assumption) | (with_reducible exact Ext.refl _) | (with_reducible refine Ext.alloc ?_ _) | (with_reducible refine Ext.drew ?_) | (with_reducible refine Ext.drewN ?_ _) | (with_reducible refine Ext.setCell ?_ ?_ _) | (with_reducible refine Ext.trans ?_ (by assumption)) | go_size)), BoxAt.other (BoxAt.ext (by (repeat' (first | (with_reducible assumption) | (with_reducible exact Ext.refl _) | (with_reducible refine Ext.alloc ?_ _) | (with_reducible refine Ext.drew ?_) | (with_reducible refine Ext.drewN ?_ _) | (with_reducible refine Ext.setCell ?_ ?_ _) | (with_reducible refine Ext.trans ?_ (by assumption)) | go_size))) ⟨cR, fR⟩) (by show w.heap.size ≠ w.heap.size + 1; omega) _, B', 0, k3, BoxAt.set (BoxAt.ext (by (repeat' (first | (with_reducible assumption) | (with_reducible exact Ext.refl _) | (with_reducible refine Ext.alloc ?_ _) | (with_reducible refine Ext.drew ?_) | (with_reducible refine Ext.drewN ?_ _) | (with_reducible refine Ext.setCell ?_ ?_ _) | (with_reducible refine Ext.trans ?_ (by assumption)) | go_size))) ⟨cA, fA⟩) _, by rw [Hsn.out]; exact VA.other (hv'.ext (by (repeat' (first | (with_reducible assumption) | (with_reducible exact Ext.refl _) | (with_reducible refine Ext.alloc ?_ _) | (with_reducible refine Ext.drew ?_) | (with_reducible refine Ext.drewN ?_ _) | (with_reducible refine Ext.setCell ?_ ?_ _) | (with_reducible refine Ext.trans ?_ (by assumption)) | go_size)))) (by show w.heap.size ≠ B'; (try simp at hB'); omega) _, by (try simp at hB'); omega, by (try simp at hB'); omega, .inr (by (try simp at hB'); omega)⟩
      case measure => simp [intOf]; omega
    · obtain rfl : i = n := by omega
      go_wp2_with fail
      refine bodyPost_ret (v := .agg #[.slice (some ⟨B, o', none⟩) 24 k']) (by simp [results, Tryd.results39, go_sem, cR]) rfl ⟨B, o', k', rfl, ?_, hB3, by (repeat' (first | (with_reducible assumption) | (with_reducible exact Ext.refl _) | (with_reducible refine Ext.alloc ?_ _) | (with_reducible refine Ext.drew ?_) | (with_reducible refine Ext.drewN ?_ _) | (with_reducible refine Ext.setCell ?_ ?_ _) | (with_reducible refine Ext.trans ?_ (by assumption)) | go_size))⟩
      rw [List.take_of_length_le (by rw [List.length_map, Hn1.out]; exact Nat.le_refl _)] at hv
      exact VA.other hv (by show w.heap.size + 1 ≠ B; omega) _

end Go.Proofs.YtglfoglkdbbmmaaDoor

/- What a range over a function wants, in the form in which this seat uses it. -/
namespace Go.Proofs.YtglfoglkdbbmmaaDoor
open Go.RowKit

theorem Ext.others {a b : World} (h : Ext a b) : KeepsOthers a b := ⟨h.size, fun k _ ho _ => (Below.block h k (Array.getElem?_eq_some_iff.1 ho).1).trans ho⟩

theorem wide_depth {n : Nat} : Fence.wide.depth.isSome = true → 1 ≤ n := fun h => by simp [Fence.wide] at h

/-- What lies below n₀ lies as it lay, but for the blocks of X (which a round may write). -/
structure KeepX (n₀ : Nat) (X : Nat → Prop) (A B : World) : Prop where
  size : A.heap.size ≤ B.heap.size
  block : ∀ k, k < n₀ → ¬ X k → B.heap[k]? = A.heap[k]?
theorem KeepX.refl (n₀ : Nat) (X : Nat → Prop) (A : World) : KeepX n₀ X A A := ⟨Nat.le_refl _, fun _ _ _ => rfl⟩
theorem KeepX.trans {n₀ : Nat} {X : Nat → Prop} {A B C : World} (h : KeepX n₀ X A B) (k : KeepX n₀ X B C) : KeepX n₀ X A C :=
  ⟨Nat.le_trans h.size k.size, fun i hi hx => (k.block i hi hx).trans (h.block i hi hx)⟩
theorem KeepX.of_below {n₀ : Nat} {X : Nat → Prop} {A B : World} (h : Below n₀ A B) : KeepX n₀ X A B := ⟨h.size, fun k hk _ => h.block k hk⟩
theorem KeepX.of_ext {n₀ : Nat} {X : Nat → Prop} {A B : World} (h : Ext A B) (hn : n₀ ≤ A.heap.size) : KeepX n₀ X A B := KeepX.of_below (Below.mono h hn)
theorem KeepX.cell {n₀ : Nat} {X : Nat → Prop} {A B : World} (h : KeepX n₀ X A B) {b o : Nat} (hb : b < n₀) (hx : ¬ X b) : B.cell? ⟨b, o, none⟩ = A.cell? ⟨b, o, none⟩ := World.cell?_of_block (w := A) (h.block b hb hx)
theorem KeepX.setCell {n₀ : Nat} {X : Nat → Prop} (A : World) {p : Addr} (hp : X p.block) (u : Value) : KeepX n₀ X A (A.setCell p u) :=
  ⟨by simp [World.setCell], fun k _ hx => Below.heap_setCell _ _ _ _ (fun e => hx (e ▸ hp))⟩
theorem KeepX.putObj {n₀ : Nat} {X : Nat → Prop} {w : World} (hn : n₀ ≤ w.heap.size) (W : World) (l : Nat) (o o' : Obj) (hl : w.heap.size ≤ l) (h : W.heap[l]? = some o) (hc : o.isCells = false) (hw : o.isWalk = false) : KeepX n₀ X W (W.putObj l o') :=
  KeepX.of_below (belowK_b hn W l o o' hl h hc hw)

/-- A cell behind the shutting of a loop's block of deferred calls. -/
theorem cell_shut {W : World} {D : Nat} (hK : W.heap[D]? = some (.deferred (some []))) {a : Addr} {v : Value} (h : W.cell? a = some v) : (W.putObj D (.deferred none)).cell? a = some v :=
  cell_kept h (grownBy_putObj' _ D (.deferred none)) (fun r e => by cases e; exact ⟨_, hK, rfl⟩)
theorem Ext.shut {w W : World} {D : Nat} (h : Ext w W) (hD : w.heap.size ≤ D) (hK : W.heap[D]? = some (.deferred (some []))) : Ext w (W.putObj D (.deferred none)) :=
  Below.trans h (belowK_b (w := w) (Nat.le_refl _) W D _ _ hD hK rfl rfl)

end Go.Proofs.YtglfoglkdbbmmaaDoor

/- Contracts of package cover: Uncovered, Decompose. -/
namespace Go.Proofs.YtglfoglkdbbmmaaDoor
open Go.RowKit

/-- The pieces as they are gathered: the box O holds a slice v of one's own (at n₀ or beyond), whose elements are areas. -/
def Out (n₀ O : Nat) (v : Value) (w : World) (Ps : List (List Int)) : Prop :=
  BoxAt w O 0 v ∧ ∃ vals, w.ownsRow n₀ 25 1 v Ps.length vals ∧ ∀ (i : Nat) L, Ps[i]? = some L → ∃ B k : Nat, vals[i]? = some (.slice (some ⟨B, 0, none⟩) 24 k) ∧ VA w B 0 L
theorem Out.ext {n₀ O : Nat} {v : Value} {w w' : World} {Ps : List (List Int)} (h : Out n₀ O v w Ps) (hE : Ext w w') : Out n₀ O v w' Ps := by
  obtain ⟨h1, vals, h2, h3⟩ := h
  exact ⟨BoxAt.ext hE h1, vals, own_ext h2 hE, fun i L hL => by obtain ⟨B, k, q1, q2⟩ := h3 i L hL; exact ⟨B, k, q1, q2.ext hE⟩⟩
theorem own_cell0 {w : World} {base : Nat} {e : TypeId} {v : Value} {n : Nat} {xs : List Value} (h : w.ownsRow base e 1 v n xs) {i : Nat} {x : Value} (hx : xs[i]? = some x) (hi : i < n) {b : Nat} (hb : v.ownBlock = some b) : w.cell? ⟨b, i, none⟩ = some x := by
  rcases h.2 with ⟨_, h0⟩ | ⟨g, cap, cur, rfl, _, _, _⟩
  · omega
  · obtain rfl : g = b := by simpa [Value.ownBlock] using hb
    rw [h.cellAt i (by omega)]
    simpa using hx
/-- A block that holds rows is none that holds a slice of slices. -/
theorem own_not_rows {w : World} {base : Nat} {e : TypeId} {v : Value} {n : Nat} {xs : List Value} (h : w.ownsRow base e 1 v n xs) {a : Option Addr} {m k : Nat} (hx : xs[0]? = some (.slice a m k)) (hn : 0 < n) {B : Nat} {L : List Int} (hB : VA w B 0 L) : v.ownBlock ≠ some B := by
  intro hb
  have h1 := own_cell0 h hx hn hb
  have h2 := hB.1 0 (by omega)
  rw [Nat.zero_add] at h2
  rw [h1] at h2; cases h2

def DecPost (n₀ O : Nat) (w : World) (Ps : List (List Int)) (L M : List Int) (e : Ending) (w' : World) : Prop :=
  ∃ (B k : Nat) (v' : Value), e = .returned (.agg #[.slice (some ⟨B, 0, none⟩) 24 k]) ∧ w.heap.size ≤ B ∧ VA w' B 0 (Globe.lessL L M) ∧ Out n₀ O v' w' (Ps ++ [Globe.meetL L M]) ∧ v'.ownBlock ≠ some B ∧
    KeepX n₀ (fun b => b = O) w w' ∧ ∀ W0, Ext W0 w → W0.heap.size ≤ O → Ext W0 w'

set_option maxRecDepth 100000 in
set_option maxHeartbeats 4000000 in
theorem Dec1_v {n₀ O : Nat} {v : Value} {Ps : List (List Int)} {w2 : World} {b o B1 o1 : Nat} (k c1 n2 c2 : Nat) (a2 : Option Addr) {L M : List Int} (w : World) (hO : Out n₀ O v w Ps) (hOn : O < n₀) (hnw : n₀ ≤ w.heap.size) (hps : Ps.length ≤ 24)
    (h : VA w b o L) (hbO : b ≠ O) (hbv : v.ownBlock ≠ some b) (h1 : VA w2 B1 o1 M) (e2 : Ext w2 w) (hB1O : B1 ≠ O) (hB1 : B1 < n₀) :
    Calls Tryd.prog 46 #[.agg #[.slice (some ⟨b, o, none⟩) 24 k], .agg #[.slice (some ⟨B1, o1, none⟩) 24 c1, .slice a2 n2 c2], .pointer (some ⟨O, 0, none⟩)] w (DecPost n₀ O w Ps L M) := by
  have hbl := h.lt
  have H := Lib.hid h
  have H1 := Lib.hid (h1.ext e2)
  have hBl := H1.out.lt
  clear h h1 e2
  obtain ⟨⟨cO, fO⟩, vals, hrow, hpc⟩ := hO
  have Hrow := Lib.hid hrow; clear hrow
  have Hpc := Lib.hid hpc; clear hpc
  have Hbv := Lib.hid hbv; clear hbv
  have lO := World.block_lt_of_cell? w _ cO
  obtain ⟨i0, hi, hz0, hz1, hz2⟩ := info_parts (P := Tryd.prog) (e := 25) (z := .agg #[.slice none 0 0]) (size := 1) (bytes := 24) (by kernel_rfl)
  have Hi := Lib.hid (And.intro hi (And.intro hz0 (And.intro hz1 hz2))); clear hi hz0 hz1 hz2
  have haw := alloc_keeps w
  go_enter Tryd.func46, Tryd.ntmps46
  go_wp2_with (first
    | (go_at_call 28; refine (Meet_v _ _ _ H.out (by (repeat' (first | (with_reducible assumption) | (with_reducible exact Ext.refl _) | (with_reducible refine Ext.alloc ?_ _) | (with_reducible refine Ext.drew ?_) | (with_reducible refine Ext.drewN ?_ _) | (with_reducible refine Ext.setCell ?_ ?_ _) | (with_reducible refine Ext.trans ?_ (by assumption)) | go_size))) H1.out (by (repeat' (first | (with_reducible assumption) | (with_reducible exact Ext.refl _) | (with_reducible refine Ext.alloc ?_ _) | (with_reducible refine Ext.drew ?_) | (with_reducible refine Ext.drewN ?_ _) | (with_reducible refine Ext.setCell ?_ ?_ _) | (with_reducible refine Ext.trans ?_ (by assumption)) | go_size)))).mono ?_; rintro e w1 ⟨Bm, km, rfl, hBm, -, hvm, hb⟩; have hc := hb.cellE; have hf := hb.frozenE; have hz := hb.size; have ha := alloc_keeps w1; (try simp only [World.size_alloc] at hc hf hz); (try simp only [World.size_setCell] at hc hf hz); (try simp only [World.size_drew] at hc hf hz))
    | (at_builtin; go_must (refine wpList_append_own _ rfl _ _ 34 rfl n₀ 25 i0 (.agg #[.slice none 0 0]) 1 24 Tryd.underlying34 Hi.out.1 Hi.out.2.1 Hi.out.2.2.1 Hi.out.2.2.2 rfl (by decide) _ _ _ rfl (own_ext Hrow.out (by (repeat' (first | (with_reducible assumption) | (with_reducible exact Ext.refl _) | (with_reducible refine Ext.alloc ?_ _) | (with_reducible refine Ext.drew ?_) | (with_reducible refine Ext.drewN ?_ _) | (with_reducible refine Ext.setCell ?_ ?_ _) | (with_reducible refine Ext.trans ?_ (by assumption)) | go_size)))) ⟨w1.heap.size + 1, 0, none⟩ 1 1 [.slice (some ⟨Bm, 0, none⟩) 24 km] rfl rfl (cell_1_at _ _ _ (by simp)) (by simp [Value.oneCell']) (by unfold maxLen; omega) (by omega) (by simp; omega) ?_); go_loud (
       intro v' w3 hown' hg3 hnil3
       obtain ⟨g', cap', rfl⟩ := ownsRow_succ hown'
       have hEw : Ext w w1 := by (repeat' (first | (with_reducible assumption) | (with_reducible exact Ext.refl _) | (with_reducible refine Ext.alloc ?_ _) | (with_reducible refine Ext.drew ?_) | (with_reducible refine Ext.drewN ?_ _) | (with_reducible refine Ext.setCell ?_ ?_ _) | (with_reducible refine Ext.trans ?_ (by assumption)) | go_size))
       have bO3 : BoxAt w3 O 0 v := BoxAt.grownR (BoxAt.ext (show Ext w _ by (repeat' (first | (with_reducible assumption) | (with_reducible exact Ext.refl _) | (with_reducible refine Ext.alloc ?_ _) | (with_reducible refine Ext.drew ?_) | (with_reducible refine Ext.drewN ?_ _) | (with_reducible refine Ext.setCell ?_ ?_ _) | (with_reducible refine Ext.trans ?_ (by assumption)) | go_size))) ⟨cO, fO⟩) hg3 (own_ne Hrow.out hOn)
       obtain ⟨cO3, fO3⟩ := bO3
       have b30 : BoxAt w3 w.heap.size 0 (.slice (some ⟨b, o, none⟩) 24 k) := BoxAt.grownR (BoxAt.ext (hb.trans (show Ext w1 _ by (repeat' (first | (with_reducible assumption) | (with_reducible exact Ext.refl _) | (with_reducible refine Ext.alloc ?_ _) | (with_reducible refine Ext.drew ?_) | (with_reducible refine Ext.drewN ?_ _) | (with_reducible refine Ext.setCell ?_ ?_ _) | (with_reducible refine Ext.trans ?_ (by assumption)) | go_size)))) ⟨by simp [go_sem], by simp [go_sem]⟩) hg3 (own_ne2 Hrow.out (by omega))
       have b40 : BoxAt w3 (w.heap.size + 1) 0 (.slice (some ⟨B1, o1, none⟩) 24 c1) := BoxAt.grownR (BoxAt.ext (hb.trans (show Ext w1 _ by (repeat' (first | (with_reducible assumption) | (with_reducible exact Ext.refl _) | (with_reducible refine Ext.alloc ?_ _) | (with_reducible refine Ext.drew ?_) | (with_reducible refine Ext.drewN ?_ _) | (with_reducible refine Ext.setCell ?_ ?_ _) | (with_reducible refine Ext.trans ?_ (by assumption)) | go_size)))) ⟨by simp [go_sem], by simp [go_sem]⟩) hg3 (own_ne2 Hrow.out (by omega))
       have b50 : BoxAt w3 (w.heap.size + 1 + 1) 0 (.slice none 0 0) := BoxAt.grownR (BoxAt.ext (hb.trans (show Ext w1 _ by (repeat' (first | (with_reducible assumption) | (with_reducible exact Ext.refl _) | (with_reducible refine Ext.alloc ?_ _) | (with_reducible refine Ext.drew ?_) | (with_reducible refine Ext.drewN ?_ _) | (with_reducible refine Ext.setCell ?_ ?_ _) | (with_reducible refine Ext.trans ?_ (by assumption)) | go_size)))) ⟨by simp [go_sem], by simp [go_sem]⟩) hg3 (own_ne2 Hrow.out (by omega))
       obtain ⟨c30, f30⟩ := b30
       obtain ⟨c40, f40⟩ := b40
       obtain ⟨c50, f50⟩ := b50
       have H3 := Lib.hid (VA.grownR (H.out.ext (show Ext w _ by (repeat' (first | (with_reducible assumption) | (with_reducible exact Ext.refl _) | (with_reducible refine Ext.alloc ?_ _) | (with_reducible refine Ext.drew ?_) | (with_reducible refine Ext.drewN ?_ _) | (with_reducible refine Ext.setCell ?_ ?_ _) | (with_reducible refine Ext.trans ?_ (by assumption)) | go_size)))) hg3 Hbv.out)
       have H13 := Lib.hid (VA.grownR (H1.out.ext (show Ext w _ by (repeat' (first | (with_reducible assumption) | (with_reducible exact Ext.refl _) | (with_reducible refine Ext.alloc ?_ _) | (with_reducible refine Ext.drew ?_) | (with_reducible refine Ext.drewN ?_ _) | (with_reducible refine Ext.setCell ?_ ?_ _) | (with_reducible refine Ext.trans ?_ (by assumption)) | go_size)))) hg3 (own_ne Hrow.out hB1))
       have hBm2 : w.heap.size ≤ Bm := by (try simp at hBm); omega
       have Hm3 := Lib.hid (VA.grownR (hvm.ext (show Ext w1 _ by (repeat' (first | (with_reducible assumption) | (with_reducible exact Ext.refl _) | (with_reducible refine Ext.alloc ?_ _) | (with_reducible refine Ext.drew ?_) | (with_reducible refine Ext.drewN ?_ _) | (with_reducible refine Ext.setCell ?_ ?_ _) | (with_reducible refine Ext.trans ?_ (by assumption)) | go_size)))) hg3 (own_ne2 Hrow.out hBm2))
       have Hp3 := Lib.hid (show ∀ (i : Nat) L, Ps[i]? = some L → ∃ B k : Nat, vals[i]? = some (.slice (some ⟨B, 0, none⟩) 24 k) ∧ VA w3 B 0 L from fun i L hL => by
         obtain ⟨B, k, q1, q2⟩ := Hpc.out i L hL
         have hpos : 0 < Ps.length := by
           rcases Nat.lt_or_ge i Ps.length with h | h
           · omega
           · rw [List.getElem?_eq_none h] at hL; cases hL
         obtain ⟨B0, k0, q3, -⟩ := Hpc.out 0 _ (List.getElem?_eq_getElem hpos)
         exact ⟨B, k, q1, VA.grownR (q2.ext (show Ext w _ by (repeat' (first | (with_reducible assumption) | (with_reducible exact Ext.refl _) | (with_reducible refine Ext.alloc ?_ _) | (with_reducible refine Ext.drew ?_) | (with_reducible refine Ext.drewN ?_ _) | (with_reducible refine Ext.setCell ?_ ?_ _) | (with_reducible refine Ext.trans ?_ (by assumption)) | go_size)))) hg3 (own_not_rows Hrow.out q3 hpos q2)⟩)
       have Kx := Lib.hid (show KeepX n₀ (fun b => b = O) w w3 from (KeepX.of_ext (show Ext w _ by (repeat' (first | (with_reducible assumption) | (with_reducible exact Ext.refl _) | (with_reducible refine Ext.alloc ?_ _) | (with_reducible refine Ext.drew ?_) | (with_reducible refine Ext.drewN ?_ _) | (with_reducible refine Ext.setCell ?_ ?_ _) | (with_reducible refine Ext.trans ?_ (by assumption)) | go_size))) hnw).trans ⟨hg3.size, fun k hk _ => hg3.block k (Nat.lt_of_lt_of_le hk (Nat.le_trans hnw (Ext.size (show Ext w _ by (repeat' (first | (with_reducible assumption) | (with_reducible exact Ext.refl _) | (with_reducible refine Ext.alloc ?_ _) | (with_reducible refine Ext.drew ?_) | (with_reducible refine Ext.drewN ?_ _) | (with_reducible refine Ext.setCell ?_ ?_ _) | (with_reducible refine Ext.trans ?_ (by assumption)) | go_size)))))) (fun e => own_ne Hrow.out hk e.symm)⟩)
       have Kw := Lib.hid (show ∀ W0, Ext W0 w → W0.heap.size ≤ O → Ext W0 w3 from fun W0 h0 h1 => Ext.own' (h0.trans (show Ext w _ by (repeat' (first | (with_reducible assumption) | (with_reducible exact Ext.refl _) | (with_reducible refine Ext.alloc ?_ _) | (with_reducible refine Ext.drew ?_) | (with_reducible refine Ext.drewN ?_ _) | (with_reducible refine Ext.setCell ?_ ?_ _) | (with_reducible refine Ext.trans ?_ (by assumption)) | go_size)))) (own_ext Hrow.out (show Ext w _ by (repeat' (first | (with_reducible assumption) | (with_reducible exact Ext.refl _) | (with_reducible refine Ext.alloc ?_ _) | (with_reducible refine Ext.drew ?_) | (with_reducible refine Ext.drewN ?_ _) | (with_reducible refine Ext.setCell ?_ ?_ _) | (with_reducible refine Ext.trans ?_ (by assumption)) | go_size)))) (by omega) hg3)
       have hz3 : w1.heap.size + 1 + 1 ≤ w3.heap.size := by have := hg3.size; (try simp at this); omega
       have hs1 := hb.size
       (try simp at hs1)
       have Ho' := Lib.hid hown'
       clear hg3 hown' hnil3 hc hf hz ha hb hvm hBm hEw
       have ha3 := alloc_keeps w3
       go_frame))
    | (go_at_call 42; refine (less_v _ _ _ (VA.other H3.out (p := ⟨O, 0, none⟩) (by show O ≠ b; omega) _) (Ext.refl _) (VA.other H13.out (p := ⟨O, 0, none⟩) (by show O ≠ B1; omega) _) (Ext.refl _)).mono ?_; rintro e w4 ⟨B, kk, rfl, hB, hv4, hb4⟩; have hc4 := hb4.cellE; have hf4 := hb4.frozenE; have hz4 := hb4.size; have ha4 := alloc_keeps w4; (try simp only [World.size_alloc] at hc4 hf4 hz4); (try simp only [World.size_setCell] at hc4 hf4 hz4); (try simp only [World.size_drew] at hc4 hf4 hz4)))
  have hB2 : w3.heap.size ≤ B := by (try simp at hB); omega
  have Hv4 := Lib.hid hv4; clear hv4
  have hg5 : g' ≠ w.heap.size + 1 + 1 := by
    intro he
    have hv0 : (vals ++ [Value.slice (some ⟨Bm, 0, none⟩) 24 km])[0]? ≠ some (.slice none 0 0) := by
      rcases Nat.eq_zero_or_pos Ps.length with h | h
      · have : vals = [] := by
          have := Hrow.out.1
          rw [h] at this
          exact List.eq_nil_of_length_eq_zero (by simpa using this)
        rw [this]; simp
      · obtain ⟨B0, k0, q3, -⟩ := Hpc.out 0 _ (List.getElem?_eq_getElem h)
        rw [List.getElem?_append_left (List.getElem?_eq_some_iff.1 q3).1, q3]; simp
    have h0 := Ho'.out.cellAt 0 (by omega)
    rw [he, c50] at h0
    exact hv0 h0.symm
  refine bodyPost_ret (v := .agg #[.slice (some ⟨B, 0, none⟩) 24 kk]) (by simp [results, Tryd.results46, go_sem, hc4, c50]) rfl ⟨B, kk, _, rfl, by omega, VA.other Hv4.out (by show w.heap.size + 1 + 1 ≠ B; omega) _, ⟨BoxAt.other (BoxAt.ext hb4 (BoxAt.set ⟨cO3, fO3⟩ _)) (by show w.heap.size + 1 + 1 ≠ O; omega) _, vals ++ [.slice (some ⟨Bm, 0, none⟩) 24 km], ?_, ?_⟩, own_ne2 Ho'.out hB2, ?_, ?_⟩
  · rw [List.length_append]
    refine own_set (own_ext (own_set Ho'.out (p := ⟨O, 0, none⟩) (own_ne Ho'.out hOn) _) hb4) (p := ⟨w.heap.size + 1 + 1, 0, none⟩) ?_ _
    intro h; simp [Value.ownBlock] at h; exact hg5 h
  · intro i L' hL'
    have hls : vals.length = Ps.length := by have := Hrow.out.1; simpa using this
    have hOB : ∀ {B : Nat} {X : List Int}, VA w3 B 0 X → O ≠ B := fun hX e => by
      have h1 := hX.1 0 (by omega)
      rw [← e, Nat.zero_add, cO3] at h1
      rcases Hrow.out.2 with ⟨q, _⟩ | ⟨_, _, _, q, _⟩ <;> (rw [q] at h1; cases h1)
    have hsB : ∀ {B : Nat} {X : List Int}, VA w3 B 0 X → w.heap.size + 1 + 1 ≠ B := fun hX e => by
      have h1 := hX.1 0 (by omega)
      rw [← e, Nat.zero_add, c50] at h1
      cases h1
    rcases Nat.lt_or_ge i Ps.length with h | h
    · rw [List.getElem?_append_left h] at hL'
      obtain ⟨B', k', q1, q2⟩ := Hp3.out i L' hL'
      exact ⟨B', k', by rw [List.getElem?_append_left (by omega)]; exact q1, VA.other ((VA.other q2 (p := ⟨O, 0, none⟩) (hOB q2) _).ext hb4) (p := ⟨w.heap.size + 1 + 1, 0, none⟩) (hsB q2) _⟩
    · have hi : i = Ps.length := by
        have := (List.getElem?_eq_some_iff.1 hL').1
        rw [List.length_append] at this
        simp at this; omega
      subst hi
      rw [List.getElem?_append_right (Nat.le_refl _), Nat.sub_self] at hL'
      cases hL'
      exact ⟨Bm, km, by rw [List.getElem?_append_right (by omega), hls, Nat.sub_self]; rfl, VA.other ((VA.other Hm3.out (p := ⟨O, 0, none⟩) (hOB Hm3.out) _).ext hb4) (p := ⟨w.heap.size + 1 + 1, 0, none⟩) (hsB Hm3.out) _⟩
  · exact ((Kx.out.trans (KeepX.setCell (X := fun b => b = O) _ (p := ⟨O, 0, none⟩) (by rfl) _)).trans (KeepX.of_ext hb4 (by rw [World.size_setCell]; omega))).trans (KeepX.of_below (Below.setCell (Below.refl _ _) (p := ⟨w.heap.size + 1 + 1, 0, none⟩) (by show n₀ ≤ w.heap.size + 1 + 1; omega) _))
  · intro W0 h0 h1
    have h2 := h0.size
    exact Ext.setCell ((Ext.setCell (Kw.out W0 h0 h1) (p := ⟨O, 0, none⟩) h1 _).trans hb4) (p := ⟨w.heap.size + 1 + 1, 0, none⟩) (by show _ ≤ w.heap.size + 1 + 1; omega) _

theorem BoxAt.keepX {n₀ : Nat} {X : Nat → Prop} {A B : World} {b o : Nat} {v : Value} (hk : KeepX n₀ X A B) (hb : b < n₀) (hx : ¬ X b) (h : BoxAt A b o v) : BoxAt B b o v :=
  ⟨(hk.cell hb hx).trans h.1, (World.frozen?_of_block (hk.block b hb hx)).trans h.2⟩
theorem Out.set {n₀ O : Nat} {v : Value} {w : World} {Ps : List (List Int)} (h : Out n₀ O v w Ps) {b : Nat} (hbO : b ≠ O) (hbn : b < n₀) {a : Option Addr} {m k : Nat} (hc : w.cell? ⟨b, 0, none⟩ = some (.slice a m k)) (u : Value) : Out n₀ O v (w.setCell ⟨b, 0, none⟩ u) Ps := by
  obtain ⟨h1, vals, h2, h3⟩ := h
  refine ⟨BoxAt.other h1 (p := ⟨b, 0, none⟩) hbO _, vals, own_set h2 (p := ⟨b, 0, none⟩) (own_ne h2 hbn) _, fun i L hL => ?_⟩
  obtain ⟨B, k', q1, q2⟩ := h3 i L hL
  refine ⟨B, k', q1, VA.other q2 (p := ⟨b, 0, none⟩) (fun e => ?_) _⟩
  have := q2.1 0 (by omega)
  rw [Nat.zero_add, ← show b = B from e, hc] at this
  cases this

def FoldDPost (W0 w : World) (b O : Nat) (l : List Int) (Ss : List (List Int)) (e : Ending) (w' : World) : Prop :=
  ∃ (B o' k' n₀ : Nat) (v : Value), e = .returned (.agg #[.slice (some ⟨B, o', none⟩) 24 k']) ∧ VA w' B o' (Globe.leftL l Ss) ∧ Out n₀ O v w' (Globe.piecesL l Ss) ∧ B ≠ O ∧ W0.heap.size ≤ n₀ ∧ (B = b ∨ w.heap.size ≤ B) ∧ Ext W0 w'
set_option maxHeartbeats 4000000 in
theorem foldD_v {W0 : World} {a : Option Addr} {n : Nat} {ss : List (List Int × List Int)} {b o O : Nat} (c k : Nat) {l : List Int} (w : World) (h : StripsAt W0 a n ss) (hok : Globe.stripsOk ss = true) (e1 : Ext W0 w) (hO : W0.heap.size ≤ O) (bO : BoxAt w O 0 (.slice none 0 0)) (hl : VA w b o l) (hbO : b ≠ O) :
    Calls Tryd.prog 39 #[.slice a n c, .agg #[.slice (some ⟨b, o, none⟩) 24 k], .func (.func 46) #[] #[.pointer (some ⟨O, 0, none⟩)]] w (FoldDPost W0 w b O l (ss.map fun s => s.1)) := by
  have lO := bO.lt
  have hbl := hl.lt
  have H := Lib.hid h
  have HL := Lib.hid hl
  have hn := h.2.1
  have hn1 := h.1
  have h24 : n ≤ 24 := by rw [← hn1]; exact (Globe.stripsOk_t.1 hok).1
  have Hok := Lib.hid hok
  have HO := Lib.hid bO
  clear h hl hok bO
  have Hn1 := Lib.hid hn1; clear hn1
  have hs0 := e1.size
  have He := Lib.hid e1; clear e1
  go_enter Tryd.func39, Tryd.ntmps39
  go_wp2_with fail
  go_loopw [11] (fun p wr => ∃ i : Nat, i ≤ n ∧ p = .int .i64 i ∧ Ext W0 wr ∧ BoxAt wr (w.heap.size + 1) 0 (.slice none 0 0) ∧ ∃ B o' k' v, BoxAt wr w.heap.size 0 (.slice (some ⟨B, o', none⟩) 24 k') ∧ Hid (VA wr B o' (Globe.leftL l ((ss.map fun s => s.1).take i))) ∧ B ≠ w.heap.size ∧ B ≠ w.heap.size + 1 ∧ B ≠ O ∧ (B = b ∨ w.heap.size ≤ B) ∧ Hid (v.ownBlock ≠ some B) ∧ Hid (Out (w.heap.size + 1 + 1) O v wr (Globe.piecesL l ((ss.map fun s => s.1).take i)))) (fun p _ => n - (intOf p).toNat)
  case atStart =>
    refine ⟨0, by omega, rfl, He.out.trans (by (repeat' (first | (with_reducible assumption) | (with_reducible exact Ext.refl _) | (with_reducible refine Ext.alloc ?_ _) | (with_reducible refine Ext.drew ?_) | (with_reducible refine Ext.drewN ?_ _) | (with_reducible refine Ext.setCell ?_ ?_ _) | (with_reducible refine Ext.trans ?_ (by assumption)) | go_size))), ⟨by simp [go_sem], by simp [go_sem]⟩, b, o, k, .slice none 0 0, ⟨by simp [go_sem], by simp [go_sem]⟩, HL.out.ext (by (repeat' (first | (with_reducible assumption) | (with_reducible exact Ext.refl _) | (with_reducible refine Ext.alloc ?_ _) | (with_reducible refine Ext.drew ?_) | (with_reducible refine Ext.drewN ?_ _) | (with_reducible refine Ext.setCell ?_ ?_ _) | (with_reducible refine Ext.trans ?_ (by assumption)) | go_size))), by omega, by omega, hbO, .inl rfl, (by intro h; cases h), ?_⟩
    refine ⟨BoxAt.ext (by (repeat' (first | (with_reducible assumption) | (with_reducible exact Ext.refl _) | (with_reducible refine Ext.alloc ?_ _) | (with_reducible refine Ext.drew ?_) | (with_reducible refine Ext.drewN ?_ _) | (with_reducible refine Ext.setCell ?_ ?_ _) | (with_reducible refine Ext.trans ?_ (by assumption)) | go_size))) HO.out, [], World.ownsRow_nil _ _ _ _, fun i L hL => ?_⟩
    simp [Globe.piecesL] at hL
  case round =>
    obtain ⟨i, hi, rfl, hE, hR, B, o', k', v, hA, hv, hB1, hB2, hB3, hB4, hvB, hOut⟩ := hrel
    obtain ⟨cA, fA⟩ := hA
    obtain ⟨cR, fR⟩ := hR
    have lA := World.block_lt_of_cell? wr _ cA
    have lR := World.block_lt_of_cell? wr _ cR
    by_cases hlt : i < n
    · obtain ⟨b3, off, s, rfl, hs, hst⟩ := H.out.at hlt
      obtain ⟨q1, q2, q3⟩ := okS_at Hok.out hs
      obtain ⟨B1, o1, c1, B2, o2, c2, d1, d2, g1, g2⟩ := hst.v q1 q2
      have lg1 := g1.lt
      replace d1 := hE.cell d1; replace d2 := hE.cell d2
      have ld1 := World.block_lt_of_cell? wr _ d1
      have i0 : (0 : Int) ≤ (i : Int) := by omega
      have i1 : (i : Int) < (n : Int) := by omega
      have hsn : Globe.leftL l ((ss.map fun s => s.1).take (i + 1)) = Globe.lessL (Globe.leftL l ((ss.map fun s => s.1).take i)) s.1 := by
        rw [take_snoc' (x := s.1) (by rw [List.getElem?_map, hs]; rfl), Globe.left_snoc]
      have hpn : Globe.piecesL l ((ss.map fun s => s.1).take (i + 1)) = Globe.piecesL l ((ss.map fun s => s.1).take i) ++ [Globe.meetL (Globe.leftL l ((ss.map fun s => s.1).take i)) s.1] := by
        rw [take_snoc' (x := s.1) (by rw [List.getElem?_map, hs]; rfl), Globe.pieces_snoc]
      have hpl : (Globe.piecesL l ((ss.map fun s => s.1).take i)).length ≤ 24 := by
        rw [Globe.pieces_len, List.length_take]; omega
      have Hsn := Lib.hid hsn; clear hsn
      have Hpn := Lib.hid hpn; clear hpn hs hst q1 q2 q3
      have HG1 := Lib.hid g1; clear g1 g2
      go_wp2_with (go_at_call 46; refine (Dec1_v _ _ _ _ _ _ (hOut.out.ext (Ext.alloc (Ext.refl _) _)) (by omega) (by simp; omega) hpl (hv.out.ext (Ext.alloc (Ext.refl _) _)) hB3 hvB.out (HG1.out.ext hE) (Ext.alloc (Ext.refl _) _) (by omega) (by omega)).mono ?_; rintro e w1 ⟨B', k3, v', rfl, hB', hv', hO', hvB', hkx, hW⟩; have cA1 := BoxAt.keepX hkx (b := w.heap.size) (o := 0) (by omega) (by omega) (BoxAt.ext (Ext.alloc (Ext.refl _) _) ⟨cA, fA⟩); have cR1 := BoxAt.keepX hkx (b := w.heap.size + 1) (o := 0) (by omega) (by omega) (BoxAt.ext (Ext.alloc (Ext.refl _) _) ⟨cR, fR⟩); obtain ⟨cA1, fA1⟩ := cA1; obtain ⟨cR1, fR1⟩ := cR1; have hE1 := hW W0 (Ext.alloc hE _) hO; have HV := Lib.hid hv'; have HO2 := Lib.hid hO'; have HvB2 := Lib.hid hvB'; clear hv' hO' hvB' hkx hW)
      have hB'' : wr.heap.size + 1 ≤ B' := by (try simp at hB'); omega
      go_roundw
      case rel =>
        refine ⟨i + 1, by omega, by go_num, Ext.setCell hE1 (p := ⟨w.heap.size, 0, none⟩) (by show _ ≤ w.heap.size; omega) _, BoxAt.other ⟨cR1, fR1⟩ (by show w.heap.size ≠ w.heap.size + 1; omega) _, B', 0, k3, v', BoxAt.set ⟨cA1, fA1⟩ _, ?_, by omega, by omega, by omega, .inr (by omega), HvB2, ?_⟩
        · rw [Hsn.out]; exact VA.other HV.out (p := ⟨w.heap.size, 0, none⟩) (by show w.heap.size ≠ B'; omega) _
        · rw [Hpn.out]; exact Out.set HO2.out (by omega) (by omega) cA1 _
      case measure => simp [intOf]; omega
    · obtain rfl : i = n := by omega
      go_wp2_with fail
      have hfull : (ss.map fun s => s.1).take i = ss.map fun s => s.1 := List.take_of_length_le (by rw [List.length_map, Hn1.out]; exact Nat.le_refl _)
      rw [hfull] at hv hOut
      refine bodyPost_ret (v := .agg #[.slice (some ⟨B, o', none⟩) 24 k']) (by simp [results, Tryd.results39, go_sem, cR]) rfl ⟨B, o', k', _, v, rfl, VA.other hv.out (by show w.heap.size + 1 ≠ B; omega) _, Out.set hOut.out (by omega) (by omega) cR _, hB3, by omega, hB4, Ext.setCell hE (p := ⟨w.heap.size + 1, 0, none⟩) (by show _ ≤ w.heap.size + 1; omega) _⟩

end Go.Proofs.YtglfoglkdbbmmaaDoor

/- Contracts of package cover: Uncovered, Decompose. -/
namespace Go.Proofs.YtglfoglkdbbmmaaDoor
open Go.RowKit

/-- What Uncovered returns. -/
def UncPost (w : World) (L1 L2 : List Int) (e : Ending) (w' : World) : Prop :=
  ∃ B1 o1 k1 B2 o2 k2 : Nat, e = .returned (.tuple #[.agg #[.slice (some ⟨B1, o1, none⟩) 24 k1], .agg #[.slice (some ⟨B2, o2, none⟩) 24 k2], .int .i64 0]) ∧ VA w' B1 o1 L1 ∧ VA w' B2 o2 L2 ∧ w.heap.size ≤ B1 ∧ w.heap.size ≤ B2 ∧ Ext w w'
def UncErr (w : World) (e : Ending) (w' : World) : Prop := e = .returned (.tuple #[.agg #[.slice none 0 0], .agg #[.slice none 0 0], .int .i64 160]) ∧ Ext w w'

set_option maxHeartbeats 4000000 in
theorem Uncovered_v {w1 w2 : World} {a : Option Addr} {n : Nat} {ss : List (List Int × List Int)} {b o : Nat} (c k : Nat) {l : List Int} (w : World) (hl : VA w1 b o l) (e1 : Ext w1 w) (h : StripsAt w2 a n ss) (e2 : Ext w2 w) (hok : Globe.stripsOk ss = true) :
    Calls Tryd.prog 15 #[.agg #[.slice (some ⟨b, o, none⟩) 24 k], .slice a n c] w (UncPost w (Globe.leftL l (ss.map fun s => s.2)) (Globe.leftL l (ss.map fun s => s.1))) := by
  have H := Lib.hid (h.ext e2)
  have HL := Lib.hid (hl.ext e1)
  have hbl := HL.out.lt
  clear h hl e1 e2
  have Hok := Lib.hid hok; clear hok
  go_enter Tryd.func15, Tryd.ntmps15
  go_wp2_with fail
  refine (Valid_e k _ HL.out.aa (by (repeat' (first | (with_reducible assumption) | (with_reducible exact Ext.refl _) | (with_reducible refine Ext.alloc ?_ _) | (with_reducible refine Ext.drew ?_) | (with_reducible refine Ext.drewN ?_ _) | (with_reducible refine Ext.setCell ?_ ?_ _) | (with_reducible refine Ext.trans ?_ (by assumption)) | go_size)))).mono ?_
  rintro e w1 ⟨rfl, hb⟩
  have hc := hb.cellE; have hf := hb.frozenE; have hz := hb.size; have ha := alloc_keeps w1; (try simp only [World.size_alloc] at hc hf hz); (try simp only [World.size_setCell] at hc hf hz); (try simp only [World.size_drew] at hc hf hz)
  go_wp2_with fail
  refine (ValidS_r c _ H.out (by (repeat' (first | (with_reducible assumption) | (with_reducible exact Ext.refl _) | (with_reducible refine Ext.alloc ?_ _) | (with_reducible refine Ext.drew ?_) | (with_reducible refine Ext.drewN ?_ _) | (with_reducible refine Ext.setCell ?_ ?_ _) | (with_reducible refine Ext.trans ?_ (by assumption)) | go_size))) Hok.out).mono ?_
  rintro e w2 ⟨rfl, hb⟩
  have hc := hb.cellE; have hf := hb.frozenE; have hz := hb.size; have ha := alloc_keeps w2; (try simp only [World.size_alloc] at hc hf hz); (try simp only [World.size_setCell] at hc hf hz); (try simp only [World.size_drew] at hc hf hz)
  go_wp2_with fail
  refine (copied_v k _ HL.out (by (repeat' (first | (with_reducible assumption) | (with_reducible exact Ext.refl _) | (with_reducible refine Ext.alloc ?_ _) | (with_reducible refine Ext.drew ?_) | (with_reducible refine Ext.drewN ?_ _) | (with_reducible refine Ext.setCell ?_ ?_ _) | (with_reducible refine Ext.trans ?_ (by assumption)) | go_size)))).mono ?_
  rintro e w3 ⟨B3, k3, rfl, hB3, hv3, hb⟩
  have hc := hb.cellE; have hf := hb.frozenE; have hz := hb.size; have ha := alloc_keeps w3; (try simp only [World.size_alloc] at hc hf hz); (try simp only [World.size_setCell] at hc hf hz); (try simp only [World.size_drew] at hc hf hz)
  go_wp2_with fail
  refine (foldU1_v c k3 _ H.out (by (repeat' (first | (with_reducible assumption) | (with_reducible exact Ext.refl _) | (with_reducible refine Ext.alloc ?_ _) | (with_reducible refine Ext.drew ?_) | (with_reducible refine Ext.drewN ?_ _) | (with_reducible refine Ext.setCell ?_ ?_ _) | (with_reducible refine Ext.trans ?_ (by assumption)) | go_size))) Hok.out hv3 (by (repeat' (first | (with_reducible assumption) | (with_reducible exact Ext.refl _) | (with_reducible refine Ext.alloc ?_ _) | (with_reducible refine Ext.drew ?_) | (with_reducible refine Ext.drewN ?_ _) | (with_reducible refine Ext.setCell ?_ ?_ _) | (with_reducible refine Ext.trans ?_ (by assumption)) | go_size)))).mono ?_
  rintro e w4 ⟨B4, o4, k4, rfl, hv4, hB4, hb⟩
  have hc := hb.cellE; have hf := hb.frozenE; have hz := hb.size; have ha := alloc_keeps w4; (try simp only [World.size_alloc] at hc hf hz); (try simp only [World.size_setCell] at hc hf hz); (try simp only [World.size_drew] at hc hf hz)
  go_wp2_with fail
  have c7 : ∀ X, Ext (w4.alloc (.cells #[.slice (some ⟨B4, o4, none⟩) 24 k4] 25)) X → X.cell? ⟨w4.heap.size, 0, none⟩ = some (.slice (some ⟨B4, o4, none⟩) 24 k4) := fun X hX => hX.cell (by simp [go_sem])
  have C7 := Lib.hid c7; clear c7
  refine (copied_v k _ HL.out (by (repeat' (first | (with_reducible assumption) | (with_reducible exact Ext.refl _) | (with_reducible refine Ext.alloc ?_ _) | (with_reducible refine Ext.drew ?_) | (with_reducible refine Ext.drewN ?_ _) | (with_reducible refine Ext.setCell ?_ ?_ _) | (with_reducible refine Ext.trans ?_ (by assumption)) | go_size)))).mono ?_
  rintro e w5 ⟨B5, k5, rfl, hB5, hv5, hb⟩
  have hc := hb.cellE; have hf := hb.frozenE; have hz := hb.size; have ha := alloc_keeps w5; (try simp only [World.size_alloc] at hc hf hz); (try simp only [World.size_setCell] at hc hf hz); (try simp only [World.size_drew] at hc hf hz)
  go_wp2_with fail
  refine (foldU2_v c k5 _ H.out (by (repeat' (first | (with_reducible assumption) | (with_reducible exact Ext.refl _) | (with_reducible refine Ext.alloc ?_ _) | (with_reducible refine Ext.drew ?_) | (with_reducible refine Ext.drewN ?_ _) | (with_reducible refine Ext.setCell ?_ ?_ _) | (with_reducible refine Ext.trans ?_ (by assumption)) | go_size))) Hok.out hv5 (by (repeat' (first | (with_reducible assumption) | (with_reducible exact Ext.refl _) | (with_reducible refine Ext.alloc ?_ _) | (with_reducible refine Ext.drew ?_) | (with_reducible refine Ext.drewN ?_ _) | (with_reducible refine Ext.setCell ?_ ?_ _) | (with_reducible refine Ext.trans ?_ (by assumption)) | go_size)))).mono ?_
  rintro e w6 ⟨B6, o6, k6, rfl, hv6, hB6, hb⟩
  have hc := hb.cellE; have hf := hb.frozenE; have hz := hb.size; have ha := alloc_keeps w6; (try simp only [World.size_alloc] at hc hf hz); (try simp only [World.size_setCell] at hc hf hz); (try simp only [World.size_drew] at hc hf hz)
  go_wp2_with fail
  have q1 := BoxAt.ext (b := w.heap.size + 1) (o := 0) (v := .slice none 0 0) (show Ext _ w1 by with_reducible assumption) ⟨by simp [go_sem], by simp [go_sem]⟩
  have q2 := BoxAt.ext (b := w.heap.size + 1 + 1) (o := 0) (v := .slice none 0 0) (show Ext _ w1 by with_reducible assumption) ⟨by simp [go_sem], by simp [go_sem]⟩
  have hEw : Ext w w1 := by (repeat' (first | (with_reducible assumption) | (with_reducible exact Ext.refl _) | (with_reducible refine Ext.alloc ?_ _) | (with_reducible refine Ext.drew ?_) | (with_reducible refine Ext.drewN ?_ _) | (with_reducible refine Ext.setCell ?_ ?_ _) | (with_reducible refine Ext.trans ?_ (by assumption)) | go_size))
  have hE1 : Ext w1 w3 := by (repeat' (first | (with_reducible assumption) | (with_reducible exact Ext.refl _) | (with_reducible refine Ext.alloc ?_ _) | (with_reducible refine Ext.drew ?_) | (with_reducible refine Ext.drewN ?_ _) | (with_reducible refine Ext.setCell ?_ ?_ _) | (with_reducible refine Ext.trans ?_ (by assumption)) | go_size))
  have hE3 : Ext w3 w4 := by (repeat' (first | (with_reducible assumption) | (with_reducible exact Ext.refl _) | (with_reducible refine Ext.alloc ?_ _) | (with_reducible refine Ext.drew ?_) | (with_reducible refine Ext.drewN ?_ _) | (with_reducible refine Ext.setCell ?_ ?_ _) | (with_reducible refine Ext.trans ?_ (by assumption)) | go_size))
  have hE56 : Ext w5 w6 := by (repeat' (first | (with_reducible assumption) | (with_reducible exact Ext.refl _) | (with_reducible refine Ext.alloc ?_ _) | (with_reducible refine Ext.drew ?_) | (with_reducible refine Ext.drewN ?_ _) | (with_reducible refine Ext.setCell ?_ ?_ _) | (with_reducible refine Ext.trans ?_ (by assumption)) | go_size))
  have hE45 : Ext (w4.alloc (.cells #[.slice (some ⟨B4, o4, none⟩) 24 k4] 25)) w5 := by with_reducible assumption
  have hE4 : Ext w4 w6 := (Ext.alloc (Ext.refl w4) _).trans (hE45.trans hE56)
  have hs1 := q2.lt
  have hs3 := hE1.size
  have hs4 := hE3.size
  have hs5 : w4.heap.size + 1 ≤ w5.heap.size := by have := hE45.size; simp at this; omega
  have hs6 : w5.heap.size ≤ w6.heap.size := hE56.size
  simp only [World.size_alloc] at hB3 hB5
  have hne4 : B4 ≠ w.heap.size + 1 ∧ B4 ≠ w.heap.size + 1 + 1 := by omega
  have hge4 : w.heap.size ≤ B4 ∧ w.heap.size ≤ B6 := by omega
  have hne6 : B6 ≠ w.heap.size + 1 ∧ B6 ≠ w.heap.size + 1 + 1 := by omega
  refine wp_name (fun V => Ext w V ∧ V.cell? ⟨w4.heap.size, 0, none⟩ = some (.slice (some ⟨B4, o4, none⟩) 24 k4) ∧ V.cell? ⟨w6.heap.size, 0, none⟩ = some (.slice (some ⟨B6, o6, none⟩) 24 k6) ∧ BoxAt V (w.heap.size + 1) 0 (.slice none 0 0) ∧ BoxAt V (w.heap.size + 1 + 1) 0 (.slice none 0 0) ∧ VA V B4 o4 (Globe.leftL l (ss.map fun s => s.2)) ∧ VA V B6 o6 (Globe.leftL l (ss.map fun s => s.1)))
    ⟨hEw.trans (hE1.trans (hE3.trans (Ext.alloc hE4 _))), C7.out _ (Ext.alloc (hE45.trans hE56) _), by simp [go_sem], q1.ext (by (repeat' (first | (with_reducible assumption) | (with_reducible exact Ext.refl _) | (with_reducible refine Ext.alloc ?_ _) | (with_reducible refine Ext.drew ?_) | (with_reducible refine Ext.drewN ?_ _) | (with_reducible refine Ext.setCell ?_ ?_ _) | (with_reducible refine Ext.trans ?_ (by assumption)) | go_size))), q2.ext (by (repeat' (first | (with_reducible assumption) | (with_reducible exact Ext.refl _) | (with_reducible refine Ext.alloc ?_ _) | (with_reducible refine Ext.drew ?_) | (with_reducible refine Ext.drewN ?_ _) | (with_reducible refine Ext.setCell ?_ ?_ _) | (with_reducible refine Ext.trans ?_ (by assumption)) | go_size))), hv4.ext (by (repeat' (first | (with_reducible assumption) | (with_reducible exact Ext.refl _) | (with_reducible refine Ext.alloc ?_ _) | (with_reducible refine Ext.drew ?_) | (with_reducible refine Ext.drewN ?_ _) | (with_reducible refine Ext.setCell ?_ ?_ _) | (with_reducible refine Ext.trans ?_ (by assumption)) | go_size))), hv6.ext (by (repeat' (first | (with_reducible assumption) | (with_reducible exact Ext.refl _) | (with_reducible refine Ext.alloc ?_ _) | (with_reducible refine Ext.drew ?_) | (with_reducible refine Ext.drewN ?_ _) | (with_reducible refine Ext.setCell ?_ ?_ _) | (with_reducible refine Ext.trans ?_ (by assumption)) | go_size)))⟩ ?_
  clear q1 q2 hEw hE1 hE3 hE4 hE45 hE56 hv3 hv4 hv5 hv6 hB3 hB4 hB5 hB6 C7 hb hc hf hz ha
  iterate 5 clear hb hc hf hz ha
  rintro V ⟨hE, c7, c8, ⟨c4, f4⟩, ⟨c5, f5⟩, v4, v6⟩
  have l4 := World.block_lt_of_cell? V _ c4
  have l5 := World.block_lt_of_cell? V _ c5
  have l7 := World.block_lt_of_cell? V _ c7
  have l8 := World.block_lt_of_cell? V _ c8
  have hX : ∀ v1 v2, Ext w (((V.drew).setCell ⟨w.heap.size + 1, 0, none⟩ v1).setCell ⟨w.heap.size + 1 + 1, 0, none⟩ v2) := fun v1 v2 => Ext.setCell (Ext.setCell (Ext.drew hE) (p := ⟨w.heap.size + 1, 0, none⟩) (by show _ ≤ w.heap.size + 1; omega) _) (p := ⟨w.heap.size + 1 + 1, 0, none⟩) (by show _ ≤ w.heap.size + 1 + 1; omega) _
  have HX := Lib.hid hX; clear hX hE
  have hY : ∀ v1 v2, VA (((V.drew).setCell ⟨w.heap.size + 1, 0, none⟩ v1).setCell ⟨w.heap.size + 1 + 1, 0, none⟩ v2) B4 o4 (Globe.leftL l (ss.map fun s => s.2)) ∧ VA (((V.drew).setCell ⟨w.heap.size + 1, 0, none⟩ v1).setCell ⟨w.heap.size + 1 + 1, 0, none⟩ v2) B6 o6 (Globe.leftL l (ss.map fun s => s.1)) := fun v1 v2 => ⟨VA.other (VA.other (v4.ext (Ext.drew (Ext.refl _))) (p := ⟨w.heap.size + 1, 0, none⟩) hne4.1.symm _) (p := ⟨w.heap.size + 1 + 1, 0, none⟩) hne4.2.symm _, VA.other (VA.other (v6.ext (Ext.drew (Ext.refl _))) (p := ⟨w.heap.size + 1, 0, none⟩) hne6.1.symm _) (p := ⟨w.heap.size + 1 + 1, 0, none⟩) hne6.2.symm _⟩
  have HY := Lib.hid hY; clear hY v4 v6 hne4 hne6
  -- <<unc
  refine wg_begin [(some 27, [7], []), (some 28, [8], []), (none, [4, 27], [0, 0]), (none, [5, 28], [1, 2, 0, 1, 2]), (some 6, [], [3, 0, 1, 2, 3])] (fun w' => w'.cell? ⟨w4.heap.size, 0, none⟩ = some (.slice (some ⟨B4, o4, none⟩) 24 k4) ∧ w'.cell? ⟨w6.heap.size, 0, none⟩ = some (.slice (some ⟨B6, o6, none⟩) 24 k6)) (by kernel_rfl) (by kernel_rfl) (by kernel_rfl) (by kernel_rfl) (by intro c d v a w h; cases d <;> first | exact h | (exact nomatch h.1) | (dsimp +zetaDelta only [Exit.then, Exit.inBlock] at h ⊢; exact h)) (⟨c7, c8⟩) (fun ops Q L hL hR hK hHeld => ?_); replace hL := Lib.hid hL; have hW1 := @evalW_tmp; have hW2 := @evalW_const; have hW3 := @evalW_func; have hW4 := @look_cons; have hW5 := @look_nil
  have r7 := wg_read hL.out 7 rfl
  have r8 := wg_read hL.out 8 rfl
  have r4 := wg_read hL.out 4 rfl
  have r5 := wg_read hL.out 5 rfl
  (refine wg_take 0 (v := ?_) hR rfl (by kernel_rfl) (by kernel_rfl) ?_ (by with_reducible assumption) ?_; rotate_left; (focus (intro w hSw; (try dsimp only at hSw); go_simp; (try with_reducible rfl))); (dsimp only [putW]))
  (refine wg_take 1 (v := ?_) hR rfl (by kernel_rfl) (by kernel_rfl) ?_ (by with_reducible assumption) ?_; rotate_left; (focus (intro w hSw; (try dsimp only at hSw); go_simp; (try with_reducible rfl))); (dsimp only [putW]))
  (refine wg_step 2 hR rfl (by kernel_rfl) (by kernel_rfl) ?_ (by kernel_rfl); refine wg_skp (w' := ?_) ?_ ?_ ?_; rotate_left; (focus (go_simp; first | done | (with_reducible rfl))); (focus (exact ⟨by simp [go_sem, c7], by simp [go_sem, c8]⟩)); intro hHeld; (dsimp only [putW]))
  (refine wg_step 3 hR rfl (by kernel_rfl) (by kernel_rfl) ?_ (by kernel_rfl); refine wg_skp (w' := ?_) ?_ ?_ ?_; rotate_left; (focus (go_simp; first | done | (with_reducible rfl))); (focus (exact ⟨by simp [go_sem, c7], by simp [go_sem, c8]⟩)); intro hHeld; (dsimp only [putW]))
  (refine wg_take 4 (v := ?_) hR rfl (by kernel_rfl) (by kernel_rfl) ?_ (by with_reducible assumption) ?_; rotate_left; (focus (intro w hSw; (try dsimp only at hSw); go_simp; (try with_reducible rfl))); (dsimp only [putW]))
  refine wg_fin hR hK [(6, 0), (20, 2), (0, 1)] (by kernel_rfl) (by kernel_rfl) (by dsimp only [mg, gsOf, valAt]) ?_; clear hW1 hW2 hW3 hW4 hW5 hR hK hL
  clear r7
  clear r8
  clear r4
  clear r5
  -- >>
  go_wp2_with fail
  refine bodyPost_ret (v := .tuple #[.agg #[.slice (some ⟨B4, o4, none⟩) 24 k4], .agg #[.slice (some ⟨B6, o6, none⟩) 24 k6], .int .i64 0]) (by simp [results, Tryd.results15, go_sem, c4, c5]) rfl ⟨B4, o4, k4, B6, o6, k6, rfl, (HY.out _ _).1, (HY.out _ _).2, hge4.1, hge4.2, HX.out _ _⟩

end Go.Proofs.YtglfoglkdbbmmaaDoor

/- Contracts of package cover: Decompose; Uncovered and Decompose of what is not valid. -/
namespace Go.Proofs.YtglfoglkdbbmmaaDoor
open Go.RowKit

/-- A slice of areas. -/
def AreasAt (w : World) (a : Option Addr) (n : Nat) (ls : List (List Int)) : Prop :=
  ls.length = n ∧ n ≤ 140737488355328 ∧ (n = 0 ∨ ∃ b off, a = some ⟨b, off, none⟩ ∧ ∀ (i : Nat) l, ls[i]? = some l → ∃ (a1 : Option Addr) (n1 c1 : Nat) (v1 : Bool), w.cell? ⟨b, off + i, none⟩ = some (.slice a1 n1 c1) ∧ AA w a1 l n1 v1)
theorem AreasAt.ext {w w' : World} {a : Option Addr} {n : Nat} {ls : List (List Int)} (h : AreasAt w a n ls) (hE : Ext w w') : AreasAt w' a n ls :=
  ⟨h.1, h.2.1, h.2.2.imp id fun ⟨b, off, ha, hc⟩ => ⟨b, off, ha, fun i l hl => by obtain ⟨a1, n1, c1, v1, q1, q2⟩ := hc i l hl; exact ⟨a1, n1, c1, v1, hE.cell q1, q2.ext hE⟩⟩⟩
theorem AreasAt.at {w : World} {a : Option Addr} {n : Nat} {ls : List (List Int)} (h : AreasAt w a n ls) {i : Nat} (hi : i < n) :
    ∃ b off l a1 n1 c1 v1, a = some ⟨b, off, none⟩ ∧ ls[i]? = some l ∧ w.cell? ⟨b, off + i, none⟩ = some (.slice a1 n1 c1) ∧ AA w a1 l n1 v1 := by
  obtain ⟨b, off, rfl, hc⟩ := h.2.2.resolve_left (by omega)
  have hs : ls[i]? = some (ls[i]'(by rw [h.1]; exact hi)) := List.getElem?_eq_getElem _
  obtain ⟨a1, n1, c1, v1, q1, q2⟩ := hc i _ hs
  exact ⟨b, off, _, a1, n1, c1, v1, rfl, hs, q1, q2⟩
theorem Out.areas {n₀ O : Nat} {v : Value} {w : World} {Ps : List (List Int)} (h : Out n₀ O v w Ps) (hl : Ps.length ≤ 140737488355328) : ∃ a c, v = .slice a Ps.length c ∧ Ps.length ≤ c ∧ AreasAt w a Ps.length Ps := by
  obtain ⟨-, vals, h2, h3⟩ := h
  rcases h2.2 with ⟨q, q0⟩ | ⟨g, cap, cur, rfl, _, _, hcap, _⟩
  · exact ⟨none, 0, by rw [q, q0], by omega, rfl, hl, .inl q0⟩
  · refine ⟨some ⟨g, 0, none⟩, cap, rfl, hcap, rfl, hl, .inr ⟨g, 0, rfl, fun i l hi => ?_⟩⟩
    obtain ⟨B, k, q1, q2⟩ := h3 i l hi
    exact ⟨_, _, _, _, by rw [Nat.zero_add, h2.cellAt i (by have := (List.getElem?_eq_some_iff.1 hi).1; omega)]; exact q1, q2.aa⟩
def DecRes (w : World) (L : List Int) (Ss : List (List Int)) (e : Ending) (w' : World) : Prop :=
  ∃ (a : Option Addr) (c B o k : Nat), e = .returned (.tuple #[.slice a Ss.length c, .agg #[.slice (some ⟨B, o, none⟩) 24 k], .int .i64 0]) ∧ Ss.length ≤ c ∧ AreasAt w' a Ss.length (Globe.piecesL L Ss) ∧ VA w' B o (Globe.leftL L Ss) ∧ Ext w w'
def DecErr (w : World) (e : Ending) (w' : World) : Prop := e = .returned (.tuple #[.slice none 0 0, .agg #[.slice none 0 0], .int .i64 160]) ∧ Ext w w'

set_option maxHeartbeats 4000000 in
theorem Decompose_v {w1 w2 : World} {a : Option Addr} {n : Nat} {ss : List (List Int × List Int)} {b o : Nat} (c k : Nat) {l : List Int} (w : World) (hl : VA w1 b o l) (e1 : Ext w1 w) (h : StripsAt w2 a n ss) (e2 : Ext w2 w) (hok : Globe.stripsOk ss = true) :
    Calls Tryd.prog 17 #[.agg #[.slice (some ⟨b, o, none⟩) 24 k], .slice a n c] w (DecRes w l (ss.map fun s => s.1)) := by
  have H := Lib.hid (h.ext e2)
  have HL := Lib.hid (hl.ext e1)
  have hbl := HL.out.lt
  clear h hl e1 e2
  have h24 : ss.length ≤ 24 := (Globe.stripsOk_t.1 hok).1
  have Hok := Lib.hid hok; clear hok
  have hpl : (Globe.piecesL l (ss.map fun s => s.1)).length = (ss.map fun s => s.1).length := Globe.pieces_len _ _
  have Hpl := Lib.hid hpl; clear hpl
  go_enter Tryd.func17, Tryd.ntmps17
  go_wp2_with fail
  refine (Valid_e k _ HL.out.aa (by (repeat' (first | (with_reducible assumption) | (with_reducible exact Ext.refl _) | (with_reducible refine Ext.alloc ?_ _) | (with_reducible refine Ext.drew ?_) | (with_reducible refine Ext.drewN ?_ _) | (with_reducible refine Ext.setCell ?_ ?_ _) | (with_reducible refine Ext.trans ?_ (by assumption)) | go_size)))).mono ?_
  rintro e w1 ⟨rfl, hb⟩
  have hc := hb.cellE; have hf := hb.frozenE; have hz := hb.size; have ha := alloc_keeps w1; (try simp only [World.size_alloc] at hc hf hz); (try simp only [World.size_setCell] at hc hf hz); (try simp only [World.size_drew] at hc hf hz)
  go_wp2_with fail
  refine (ValidS_r c _ H.out (by (repeat' (first | (with_reducible assumption) | (with_reducible exact Ext.refl _) | (with_reducible refine Ext.alloc ?_ _) | (with_reducible refine Ext.drew ?_) | (with_reducible refine Ext.drewN ?_ _) | (with_reducible refine Ext.setCell ?_ ?_ _) | (with_reducible refine Ext.trans ?_ (by assumption)) | go_size))) Hok.out).mono ?_
  rintro e w2 ⟨rfl, hb⟩
  have hc := hb.cellE; have hf := hb.frozenE; have hz := hb.size; have ha := alloc_keeps w2; (try simp only [World.size_alloc] at hc hf hz); (try simp only [World.size_setCell] at hc hf hz); (try simp only [World.size_drew] at hc hf hz)
  have hE2 : Ext w w2 := by (repeat' (first | (with_reducible assumption) | (with_reducible exact Ext.refl _) | (with_reducible refine Ext.alloc ?_ _) | (with_reducible refine Ext.drew ?_) | (with_reducible refine Ext.drewN ?_ _) | (with_reducible refine Ext.setCell ?_ ?_ _) | (with_reducible refine Ext.trans ?_ (by assumption)) | go_size))
  have b5 := BoxAt.ext (b := w.heap.size + 1) (o := 0) (v := .slice none 0 0) (show Ext _ w1 by with_reducible assumption) ⟨by simp [go_sem], by simp [go_sem]⟩
  have b52 := BoxAt.ext hb b5
  have l52 := b52.lt
  clear b5
  go_wp2_with fail
  refine (copied_v k _ HL.out (by (repeat' (first | (with_reducible assumption) | (with_reducible exact Ext.refl _) | (with_reducible refine Ext.alloc ?_ _) | (with_reducible refine Ext.drew ?_) | (with_reducible refine Ext.drewN ?_ _) | (with_reducible refine Ext.setCell ?_ ?_ _) | (with_reducible refine Ext.trans ?_ (by assumption)) | go_size)))).mono ?_
  rintro e w3 ⟨B3, k3, rfl, hB3, hv3, hb⟩
  have hE3 : Ext w2 w3 := by (repeat' (first | (with_reducible assumption) | (with_reducible exact Ext.refl _) | (with_reducible refine Ext.alloc ?_ _) | (with_reducible refine Ext.drew ?_) | (with_reducible refine Ext.drewN ?_ _) | (with_reducible refine Ext.setCell ?_ ?_ _) | (with_reducible refine Ext.trans ?_ (by assumption)) | go_size))
  have bO := BoxAt.ext (b := w2.heap.size) (o := 0) (v := .slice none 0 0) hb ⟨by simp [go_sem], by simp [go_sem]⟩
  simp only [World.size_alloc] at hB3
  have hc := hb.cellE; have hf := hb.frozenE; have hz := hb.size; have ha := alloc_keeps w3; (try simp only [World.size_alloc] at hc hf hz); (try simp only [World.size_setCell] at hc hf hz); (try simp only [World.size_drew] at hc hf hz)
  go_wp2_with fail
  refine (foldD_v c k3 _ (H.out.ext hE2) Hok.out hE3 (Nat.le_refl _) bO hv3 (by omega)).mono ?_
  rintro e w4 ⟨B4, o4, k4, n₀, v, rfl, hv4, hO4, hBO4, hn0, hB4, hE4⟩
  have c5 := BoxAt.ext hE4 b52
  have hs4 := hE4.size
  have hs3 := hE3.size
  have HO4 := Lib.hid hO4; have HV4 := Lib.hid hv4
  clear hO4 hv4 bO hv3 b52 hb hc hf hz ha
  iterate 2 clear hb hc hf hz ha
  have ha4 := alloc_keeps w4
  have cO4 := HO4.out.1.1
  have lO4 := World.block_lt_of_cell? w4 _ cO4
  go_wp2_with fail
  refine wp_name (fun V => Ext w V ∧ V.cell? ⟨w2.heap.size, 0, none⟩ = some v ∧ V.cell? ⟨w4.heap.size, 0, none⟩ = some (.slice (some ⟨B4, o4, none⟩) 24 k4) ∧ BoxAt V (w.heap.size + 1) 0 (.slice none 0 0) ∧ Out n₀ w2.heap.size v V (Globe.piecesL l (ss.map fun s => s.1)) ∧ VA V B4 o4 (Globe.leftL l (ss.map fun s => s.1)))
    ⟨hE2.trans (Ext.alloc hE4 _), Ext.cell (Ext.alloc (Ext.refl _) _) cO4, by simp [go_sem], BoxAt.ext (Ext.alloc (Ext.refl _) _) c5, HO4.out.ext (Ext.alloc (Ext.refl _) _), HV4.out.ext (Ext.alloc (Ext.refl _) _)⟩ ?_
  clear HO4 HV4 cO4 c5 ha4
  rintro V ⟨hE, cO, c8, ⟨c5, f5⟩, hO, hv⟩
  have l5 := World.block_lt_of_cell? V _ c5
  have lO := World.block_lt_of_cell? V _ cO
  have l8 := World.block_lt_of_cell? V _ c8
  have hX : ∀ v1, Ext w ((V.drew).setCell ⟨w.heap.size + 1, 0, none⟩ v1) := fun v1 => Ext.setCell (Ext.drew hE) (p := ⟨w.heap.size + 1, 0, none⟩) (by show _ ≤ w.heap.size + 1; omega) _
  have HX := Lib.hid hX; clear hX hE
  have hY : ∀ v1, VA ((V.drew).setCell ⟨w.heap.size + 1, 0, none⟩ v1) B4 o4 (Globe.leftL l (ss.map fun s => s.1)) := fun v1 => VA.other (hv.ext (Ext.drew (Ext.refl _))) (p := ⟨w.heap.size + 1, 0, none⟩) (by show w.heap.size + 1 ≠ B4; omega) _
  have HY := Lib.hid hY; clear hY hv
  have hZ : ∀ v1, Out n₀ w2.heap.size v ((V.drew).setCell ⟨w.heap.size + 1, 0, none⟩ v1) (Globe.piecesL l (ss.map fun s => s.1)) := fun v1 => Out.set (hO.ext (Ext.drew (Ext.refl _))) (by omega) (by omega) c5 _
  have HZ := Lib.hid hZ; clear hZ hO
  -- <<dec
  refine wg_begin [(some 23, [7], []), (some 24, [8], []), (some 4, [23], [0, 0]), (none, [5, 24], [1, 2, 0, 1, 2]), (some 6, [], [3, 0, 1, 2, 3])] (fun w' => w'.cell? ⟨w2.heap.size, 0, none⟩ = some v ∧ w'.cell? ⟨w4.heap.size, 0, none⟩ = some (.slice (some ⟨B4, o4, none⟩) 24 k4)) (by kernel_rfl) (by kernel_rfl) (by kernel_rfl) (by kernel_rfl) (by intro c d v a w h; cases d <;> first | exact h | (exact nomatch h.1) | (dsimp +zetaDelta only [Exit.then, Exit.inBlock] at h ⊢; exact h)) (⟨cO, c8⟩) (fun ops Q L hL hR hK hHeld => ?_); replace hL := Lib.hid hL; have hW1 := @evalW_tmp; have hW2 := @evalW_const; have hW3 := @evalW_func; have hW4 := @look_cons; have hW5 := @look_nil
  have r7 := wg_read hL.out 7 rfl
  have r8 := wg_read hL.out 8 rfl
  have r5 := wg_read hL.out 5 rfl
  (refine wg_take 0 (v := ?_) hR rfl (by kernel_rfl) (by kernel_rfl) ?_ (by with_reducible assumption) ?_; rotate_left; (focus (intro w hSw; (try dsimp only at hSw); go_simp; (try with_reducible rfl))); (dsimp only [putW]))
  (refine wg_take 1 (v := ?_) hR rfl (by kernel_rfl) (by kernel_rfl) ?_ (by with_reducible assumption) ?_; rotate_left; (focus (intro w hSw; (try dsimp only at hSw); go_simp; (try with_reducible rfl))); (dsimp only [putW]))
  (refine wg_take 2 (v := ?_) hR rfl (by kernel_rfl) (by kernel_rfl) ?_ (by with_reducible assumption) ?_; rotate_left; (focus (intro w hSw; (try dsimp only at hSw); go_simp; (try with_reducible rfl))); (dsimp only [putW]))
  (refine wg_step 3 hR rfl (by kernel_rfl) (by kernel_rfl) ?_ (by kernel_rfl); refine wg_skp (w' := ?_) ?_ ?_ ?_; rotate_left; (focus (go_simp; first | done | (with_reducible rfl))); (focus (exact ⟨by simp [go_sem, cO], by simp [go_sem, c8]⟩)); intro hHeld; (dsimp only [putW]))
  (refine wg_take 4 (v := ?_) hR rfl (by kernel_rfl) (by kernel_rfl) ?_ (by with_reducible assumption) ?_; rotate_left; (focus (intro w hSw; (try dsimp only at hSw); go_simp; (try with_reducible rfl))); (dsimp only [putW]))
  refine wg_fin hR hK [(4, 1), (1, 0), (16, 3), (0, 2)] (by kernel_rfl) (by kernel_rfl) (by dsimp only [mg, gsOf, valAt]) ?_; clear hW1 hW2 hW3 hW4 hW5 hR hK hL
  clear r7
  clear r8
  clear r5
  -- >>
  go_wp2_with fail
  obtain ⟨aa, ca, rfl, hcap, hA⟩ := (HZ.out (.slice (some ⟨B4, o4, none⟩) 24 k4)).areas (by rw [Hpl.out, List.length_map]; omega)
  rw [Hpl.out] at hA hcap ⊢
  refine bodyPost_ret (v := .tuple #[.slice aa (ss.map fun s => s.1).length ca, .agg #[.slice (some ⟨B4, o4, none⟩) 24 k4], .int .i64 0]) (by simp [results, Tryd.results17, go_sem, c5]) rfl ⟨aa, ca, B4, o4, k4, rfl, hcap, hA, HY.out _, HX.out _⟩

set_option maxHeartbeats 1000000 in
theorem Uncovered_n {w1 w2 : World} {a : Option Addr} {n : Nat} {ss : List (List Int × List Int)} {a1 : Option Addr} {n1 : Nat} {l : List Int} {v : Bool} (c k : Nat) (w : World) (hl : AA w1 a1 l n1 v) (e1 : Ext w1 w) (h : StripsAt w2 a n ss) (e2 : Ext w2 w) (hno : (v && Globe.stripsOk ss) = false) :
    Calls Tryd.prog 15 #[.agg #[.slice a1 n1 k], .slice a n c] w (UncErr w) := by
  have H := Lib.hid (h.ext e2)
  replace hl := hl.ext e1
  clear h e1 e2
  cases v
  · go_enter Tryd.func15, Tryd.ntmps15
    go_wp2_with fail
    refine (Valid_e k _ hl (by (repeat' (first | (with_reducible assumption) | (with_reducible exact Ext.refl _) | (with_reducible refine Ext.alloc ?_ _) | (with_reducible refine Ext.drew ?_) | (with_reducible refine Ext.drewN ?_ _) | (with_reducible refine Ext.setCell ?_ ?_ _) | (with_reducible refine Ext.trans ?_ (by assumption)) | go_size)))).mono ?_
    rintro e w1 ⟨rfl, hb⟩
    have hc := hb.cellE; have hf := hb.frozenE; have hz := hb.size; have ha := alloc_keeps w1; (try simp only [World.size_alloc] at hc hf hz); (try simp only [World.size_setCell] at hc hf hz); (try simp only [World.size_drew] at hc hf hz)
    go_wp2_with fail
    exact bodyPost_ret (v := .tuple #[.agg #[.slice none 0 0], .agg #[.slice none 0 0], .int .i64 160]) (by simp [results, Tryd.results15, go_sem, hc]) rfl ⟨rfl, by (repeat' (first | (with_reducible assumption) | (with_reducible exact Ext.refl _) | (with_reducible refine Ext.alloc ?_ _) | (with_reducible refine Ext.drew ?_) | (with_reducible refine Ext.drewN ?_ _) | (with_reducible refine Ext.setCell ?_ ?_ _) | (with_reducible refine Ext.trans ?_ (by assumption)) | go_size))⟩
  · have hq : Globe.stripsOk ss = false := by simpa using hno
    have Hq := Lib.hid hq; clear hq hno
    go_enter Tryd.func15, Tryd.ntmps15
    go_wp2_with fail
    refine (Valid_e k _ hl (by (repeat' (first | (with_reducible assumption) | (with_reducible exact Ext.refl _) | (with_reducible refine Ext.alloc ?_ _) | (with_reducible refine Ext.drew ?_) | (with_reducible refine Ext.drewN ?_ _) | (with_reducible refine Ext.setCell ?_ ?_ _) | (with_reducible refine Ext.trans ?_ (by assumption)) | go_size)))).mono ?_
    rintro e w1 ⟨rfl, hb⟩
    have hc := hb.cellE; have hf := hb.frozenE; have hz := hb.size; have ha := alloc_keeps w1; (try simp only [World.size_alloc] at hc hf hz); (try simp only [World.size_setCell] at hc hf hz); (try simp only [World.size_drew] at hc hf hz)
    go_wp2_with fail
    refine (ValidS_r c _ H.out (by (repeat' (first | (with_reducible assumption) | (with_reducible exact Ext.refl _) | (with_reducible refine Ext.alloc ?_ _) | (with_reducible refine Ext.drew ?_) | (with_reducible refine Ext.drewN ?_ _) | (with_reducible refine Ext.setCell ?_ ?_ _) | (with_reducible refine Ext.trans ?_ (by assumption)) | go_size))) Hq.out).mono ?_
    rintro e w2 ⟨rfl, hb⟩
    have hc := hb.cellE; have hf := hb.frozenE; have hz := hb.size; have ha := alloc_keeps w2; (try simp only [World.size_alloc] at hc hf hz); (try simp only [World.size_setCell] at hc hf hz); (try simp only [World.size_drew] at hc hf hz)
    go_wp2_with fail
    exact bodyPost_ret (v := .tuple #[.agg #[.slice none 0 0], .agg #[.slice none 0 0], .int .i64 160]) (by simp [results, Tryd.results15, go_sem, *]) rfl ⟨rfl, by (repeat' (first | (with_reducible assumption) | (with_reducible exact Ext.refl _) | (with_reducible refine Ext.alloc ?_ _) | (with_reducible refine Ext.drew ?_) | (with_reducible refine Ext.drewN ?_ _) | (with_reducible refine Ext.setCell ?_ ?_ _) | (with_reducible refine Ext.trans ?_ (by assumption)) | go_size))⟩
set_option maxHeartbeats 1000000 in
theorem Decompose_n {w1 w2 : World} {a : Option Addr} {n : Nat} {ss : List (List Int × List Int)} {a1 : Option Addr} {n1 : Nat} {l : List Int} {v : Bool} (c k : Nat) (w : World) (hl : AA w1 a1 l n1 v) (e1 : Ext w1 w) (h : StripsAt w2 a n ss) (e2 : Ext w2 w) (hno : (v && Globe.stripsOk ss) = false) :
    Calls Tryd.prog 17 #[.agg #[.slice a1 n1 k], .slice a n c] w (DecErr w) := by
  have H := Lib.hid (h.ext e2)
  replace hl := hl.ext e1
  clear h e1 e2
  cases v
  · go_enter Tryd.func17, Tryd.ntmps17
    go_wp2_with fail
    refine (Valid_e k _ hl (by (repeat' (first | (with_reducible assumption) | (with_reducible exact Ext.refl _) | (with_reducible refine Ext.alloc ?_ _) | (with_reducible refine Ext.drew ?_) | (with_reducible refine Ext.drewN ?_ _) | (with_reducible refine Ext.setCell ?_ ?_ _) | (with_reducible refine Ext.trans ?_ (by assumption)) | go_size)))).mono ?_
    rintro e w1 ⟨rfl, hb⟩
    have hc := hb.cellE; have hf := hb.frozenE; have hz := hb.size; have ha := alloc_keeps w1; (try simp only [World.size_alloc] at hc hf hz); (try simp only [World.size_setCell] at hc hf hz); (try simp only [World.size_drew] at hc hf hz)
    go_wp2_with fail
    exact bodyPost_ret (v := .tuple #[.slice none 0 0, .agg #[.slice none 0 0], .int .i64 160]) (by simp [results, Tryd.results17, go_sem, hc]) rfl ⟨rfl, by (repeat' (first | (with_reducible assumption) | (with_reducible exact Ext.refl _) | (with_reducible refine Ext.alloc ?_ _) | (with_reducible refine Ext.drew ?_) | (with_reducible refine Ext.drewN ?_ _) | (with_reducible refine Ext.setCell ?_ ?_ _) | (with_reducible refine Ext.trans ?_ (by assumption)) | go_size))⟩
  · have hq : Globe.stripsOk ss = false := by simpa using hno
    have Hq := Lib.hid hq; clear hq hno
    go_enter Tryd.func17, Tryd.ntmps17
    go_wp2_with fail
    refine (Valid_e k _ hl (by (repeat' (first | (with_reducible assumption) | (with_reducible exact Ext.refl _) | (with_reducible refine Ext.alloc ?_ _) | (with_reducible refine Ext.drew ?_) | (with_reducible refine Ext.drewN ?_ _) | (with_reducible refine Ext.setCell ?_ ?_ _) | (with_reducible refine Ext.trans ?_ (by assumption)) | go_size)))).mono ?_
    rintro e w1 ⟨rfl, hb⟩
    have hc := hb.cellE; have hf := hb.frozenE; have hz := hb.size; have ha := alloc_keeps w1; (try simp only [World.size_alloc] at hc hf hz); (try simp only [World.size_setCell] at hc hf hz); (try simp only [World.size_drew] at hc hf hz)
    go_wp2_with fail
    refine (ValidS_r c _ H.out (by (repeat' (first | (with_reducible assumption) | (with_reducible exact Ext.refl _) | (with_reducible refine Ext.alloc ?_ _) | (with_reducible refine Ext.drew ?_) | (with_reducible refine Ext.drewN ?_ _) | (with_reducible refine Ext.setCell ?_ ?_ _) | (with_reducible refine Ext.trans ?_ (by assumption)) | go_size))) Hq.out).mono ?_
    rintro e w2 ⟨rfl, hb⟩
    have hc := hb.cellE; have hf := hb.frozenE; have hz := hb.size; have ha := alloc_keeps w2; (try simp only [World.size_alloc] at hc hf hz); (try simp only [World.size_setCell] at hc hf hz); (try simp only [World.size_drew] at hc hf hz)
    go_wp2_with fail
    exact bodyPost_ret (v := .tuple #[.slice none 0 0, .agg #[.slice none 0 0], .int .i64 160]) (by simp [results, Tryd.results17, go_sem, *]) rfl ⟨rfl, by (repeat' (first | (with_reducible assumption) | (with_reducible exact Ext.refl _) | (with_reducible refine Ext.alloc ?_ _) | (with_reducible refine Ext.drew ?_) | (with_reducible refine Ext.drewN ?_ _) | (with_reducible refine Ext.setCell ?_ ?_ _) | (with_reducible refine Ext.trans ?_ (by assumption)) | go_size))⟩

end Go.Proofs.YtglfoglkdbbmmaaDoor

/- Contracts of the reference of package cover: pick, Area. -/
namespace Go.Proofs.YtglfoglkdbbmmaaDoor
open Go.RowKit
open Globe (outTo outTo_snoc outTo_nil outTo_spec)

theorem rpick16_c (c n : Int) (w : World) (hc : IsI c) (h0 : 0 < n) (h1 : n ≤ 100000000) : Calls Tryd.prog 37 #[.int .i64 c, .int .i64 n] w fun e w' => e = .returned (.int .i64 (pickF c n)) ∧ w = w' := by
  obtain ⟨h2, h3⟩ := hc
  by_cases h : c < 0
  · go_enter Tryd.func37, Tryd.ntmps37
    go_wp2
    go_ret
    exact ⟨ret_int (by rw [pickF_neg h, ← Int.neg_tmod, Int.tmod_eq_emod_of_nonneg (by omega)]), rfl⟩
  · have h' : 0 ≤ c := by omega
    go_enter Tryd.func37, Tryd.ntmps37
    go_wp2
    go_ret
    exact ⟨ret_int (by rw [pickF_pos h']), rfl⟩

theorem pick_c (c n : Int) (w : World) (hc : IsI c) (h0 : 0 < n) (h1 : n ≤ 100000000) : Calls Tryd.prog 14 #[.int .i64 c, .int .i64 n] w fun e w' => e = .returned (.int .i64 (pickF c n)) ∧ w = w' := by
  obtain ⟨h2, h3⟩ := hc
  by_cases h : c < 0
  · go_enter Tryd.func14, Tryd.ntmps14
    go_wp2
    go_ret
    exact ⟨ret_int (by rw [pickF_neg h, ← Int.neg_tmod, Int.tmod_eq_emod_of_nonneg (by omega)]), rfl⟩
  · have h' : 0 ≤ c := by omega
    go_enter Tryd.func14, Tryd.ntmps14
    go_wp2
    go_ret
    exact ⟨ret_int (by rw [pickF_pos h']), rfl⟩

/-- The slice at a (n elements) reads as rows of four ints. -/
def QAt (w : World) (a : Option Addr) (n : Nat) (q : Nat → Nat → Int) : Prop :=
  n = 0 ∨ ∃ b off, a = some ⟨b, off, none⟩ ∧ ∀ i, i < n → ∀ j, j < 4 → w.cell? ⟨b, off + i * 4 + j, none⟩ = some (.int .i64 (q i j)) ∧ IsI (q i j)
theorem QAt.ext {w w' : World} {a : Option Addr} {n : Nat} {q : Nat → Nat → Int} (h : QAt w a n q) (hE : Ext w w') : QAt w' a n q :=
  h.imp id fun ⟨b, off, ha, hc⟩ => ⟨b, off, ha, fun i hi j hj => ⟨hE.cell (hc i hi j hj).1, (hc i hi j hj).2⟩⟩


/-- The cells of the areas that integers determine. -/
def arC (q : Nat → Nat → Int) (i k : Nat) : Nat := (46 + (pickF (q i 0) 8).toNat + k) % 48
def arR (q : Nat → Nat → Int) (i y : Nat) : Nat := (pickF (q i 1) 6).toNat + y
def arK (q : Nat → Nat → Int) (i y k : Nat) : List (Nat × Nat) := (List.range k).map fun k => (arC q i k, arR q i y)
def arY (q : Nat → Nat → Int) (i y : Nat) : List (Nat × Nat) := (List.range y).flatMap fun y => arK q i y ((pickF (q i 2) 6).toNat + 1)
def arP (q : Nat → Nat → Int) (i : Nat) : List (Nat × Nat) := (List.range i).flatMap fun i => arY q i ((pickF (q i 3) 4).toNat + 1)
theorem arK_succ (q : Nat → Nat → Int) (i y k : Nat) : arK q i y (k + 1) = arK q i y k ++ [(arC q i k, arR q i y)] := by simp [arK, List.range_succ]
theorem arY_succ (q : Nat → Nat → Int) (i y : Nat) : arY q i (y + 1) = arY q i y ++ arK q i y ((pickF (q i 2) 6).toNat + 1) := by simp [arY, List.range_succ]
theorem arP_succ (q : Nat → Nat → Int) (i : Nat) : arP q (i + 1) = arP q i ++ arY q i ((pickF (q i 3) 4).toNat + 1) := by simp [arP, List.range_succ]
theorem arK_in {q : Nat → Nat → Int} {i y k : Nat} (hy : y < 5) : ∀ p ∈ arK q i y k, p.1 < 48 ∧ p.2 < 24 := by
  intro p hp
  simp only [arK, List.mem_map, List.mem_range] at hp
  obtain ⟨z, _, rfl⟩ := hp
  have := @pickF_bd (q i 1) 6 (by omega)
  exact ⟨Nat.mod_lt _ (by decide), by show arR q i y < 24; unfold arR; omega⟩
theorem arY_in {q : Nat → Nat → Int} {i y : Nat} (hy : y ≤ 5) : ∀ p ∈ arY q i y, p.1 < 48 ∧ p.2 < 24 := by
  intro p hp
  simp only [arY, List.mem_flatMap, List.mem_range] at hp
  obtain ⟨z, hz, hp⟩ := hp
  exact arK_in (by omega) p hp
theorem arP_in {q : Nat → Nat → Int} {i : Nat} : ∀ p ∈ arP q i, p.1 < 48 ∧ p.2 < 24 := by
  intro p hp
  simp only [arP, List.mem_flatMap, List.mem_range] at hp
  obtain ⟨z, hz, hp⟩ := hp
  have := @pickF_bd (q z 3) 4 (by omega)
  exact arY_in (by omega) p hp
/-- The area that n rows of integers determine. -/
def areaL (q : Nat → Nat → Int) (n : Nat) : List Int := outTo (arP q (min n 3))
theorem area_valid (q : Nat → Nat → Int) (n : Nat) : Globe.validL (areaL q n) = true := (outTo_spec _ _ rfl arP_in).1
/-- In the midst of Area: the area's own block B, its box O; the cells that it has so far. -/
def MkA (w : World) (O B : Nat) (pts : List (Nat × Nat)) (wr : World) : Prop :=
  RowsAt wr B (outTo pts) ∧ wr.cell? ⟨O, 0, none⟩ = some (.slice (some ⟨B, 0, none⟩) 24 24) ∧ BoxAt wr w.heap.size 0 (.slice none 0 0) ∧ Ext w wr

set_option maxRecDepth 100000 in
set_option maxHeartbeats 8000000 in
theorem Area_c {w0 : World} {a : Option Addr} {n : Nat} (c : Nat) {q : Nat → Nat → Int} (w : World) (h : QAt w0 a n q) (hE0 : Ext w0 w) (hn : n ≤ 9223372036854775807) :
    Calls Tryd.prog 11 #[.slice a n c] w (RetF w (areaL q n)) := by
  have H := Lib.hid (h.ext hE0); clear h hE0
  go_enter Tryd.func11, Tryd.ntmps11
  go_wp2_with (go_at_call 36; refine (rEmpty_c _).mono ?_; rintro e w2 ⟨B, rfl, hB, hr, hb2⟩)
  obtain ⟨O, hO⟩ : ∃ O, O = w2.heap.size := ⟨_, rfl⟩
  have hBO : B < O := by have := hr.lt; omega
  have hwB : w.heap.size < B := by simp at hB; omega
  refine wp_name (fun V => MkA w O B [] V) ⟨?_, ?_, ?_, ?_⟩ ?_
  · exact hr.ext (by (repeat' (first | (with_reducible assumption) | (with_reducible exact Ext.refl _) | (with_reducible refine Ext.alloc ?_ _) | (with_reducible refine Ext.drew ?_) | (with_reducible refine Ext.drewN ?_ _) | (with_reducible refine Ext.setCell ?_ ?_ _) | (with_reducible refine Ext.trans ?_ (by assumption)) | go_size)))
  · rw [hO]; simp [go_sem]
  · (repeat' (first | (with_reducible assumption) | (exact ⟨by simp [go_sem], by simp [go_sem]⟩) | (with_reducible refine BoxAt.ext (Ext.alloc (Ext.refl _) _) ?_) | (with_reducible refine BoxAt.ext (by with_reducible assumption) ?_)))
  · (repeat' (first | (with_reducible assumption) | (with_reducible exact Ext.refl _) | (with_reducible refine Ext.alloc ?_ _) | (with_reducible refine Ext.drew ?_) | (with_reducible refine Ext.drewN ?_ _) | (with_reducible refine Ext.setCell ?_ ?_ _) | (with_reducible refine Ext.trans ?_ (by assumption)) | go_size))
  intro V hF
  rw [← hO]
  clear hO hr hb2 hB
  go_loopw [4] (fun p wr => ∃ i : Nat, i ≤ n ∧ i ≤ 3 ∧ p = .int .i64 i ∧ MkA w O B (arP q i) wr) (fun p _ => 3 - (intOf p).toNat)
  case atStart => exact ⟨0, by omega, by omega, rfl, hF⟩
  case round =>
    clear hF
    obtain ⟨i, hi, hi3, rfl, hF⟩ := hrel
    by_cases hlt : i < n ∧ i < 3
    · obtain ⟨hl1, hl2⟩ := hlt
      obtain ⟨b, off, rfl, hq⟩ : ∃ b off, a = some ⟨b, off, none⟩ ∧ ∀ i, i < n → ∀ j, j < 4 → w.cell? ⟨b, off + i * 4 + j, none⟩ = some (.int .i64 (q i j)) ∧ IsI (q i j) := H.out.resolve_left (by omega)
      have pq0 : w.cell? ⟨b, off + i * 4, none⟩ = some (.int .i64 (q i 0)) := (hq i hl1 0 (by omega)).1
      have pq1 := (hq i hl1 1 (by omega)).1
      have pq2 := (hq i hl1 2 (by omega)).1
      have pq3 := (hq i hl1 3 (by omega)).1
      have I0 := Lib.hid (hq i hl1 0 (by omega)).2
      have I1 := Lib.hid (hq i hl1 1 (by omega)).2
      have I2 := Lib.hid (hq i hl1 2 (by omega)).2
      have I3 := Lib.hid (hq i hl1 3 (by omega)).2
      clear hq
      have hbl : b < w.heap.size := World.block_lt_of_cell? w _ pq0
      have i0 : (0 : Int) ≤ (i : Int) := by omega
      have i1 : (i : Int) < (n : Int) := by omega
      have i2 : (i : Int) < 3 := by omega
      obtain ⟨h0, h1⟩ := @pickF_bd (q i 3) 4 (by omega)
      obtain ⟨g0, g1⟩ := @pickF_bd (q i 2) 6 (by omega)
      obtain ⟨y0, y1⟩ := @pickF_bd (q i 1) 6 (by omega)
      obtain ⟨x0, x1⟩ := @pickF_bd (q i 0) 8 (by omega)
      obtain ⟨wo, rfl⟩ : ∃ wo : World, wo = wr := ⟨_, rfl⟩
      go_wp2_with fail
      go_loopw [5] (fun p wr => ∃ y : Nat, (y : Int) ≤ pickF (q i 3) 4 + 1 ∧ p = .int .i64 y ∧ MkA w O B (arP q i ++ arY q i y) wr) (fun p _ => 5 - (intOf p).toNat)
      case atStart => exact ⟨0, by omega, rfl, by simpa [arY] using hF⟩
      case round =>
        clear hF
        obtain ⟨y, hy, rfl, hF⟩ := hrel
        have hE := hF.2.2.2
        have q2 := hE.cell pq2
        have q3 := hE.cell pq3
        by_cases hly : (y : Int) ≤ pickF (q i 3) 4
        · go_wp2_with (go_at_call 37; refine (rpick16_c _ _ _ I3.out (by omega) (by omega)).mono ?_; rintro e w' ⟨rfl, rfl⟩)
          obtain ⟨wo2, rfl⟩ : ∃ wo2 : World, wo2 = wr := ⟨_, rfl⟩
          clear q2 q3
          go_loopw [6] (fun p wr => ∃ k : Nat, (k : Int) ≤ pickF (q i 2) 6 + 1 ∧ p = .int .i64 k ∧ MkA w O B (arP q i ++ arY q i y ++ arK q i y k) wr) (fun p _ => 7 - (intOf p).toNat)
          case atStart => exact ⟨0, by omega, rfl, by simpa [arK] using hF⟩
          case round =>
            clear hF hE
            obtain ⟨k, hk, rfl, hF⟩ := hrel
            have hE := hF.2.2.2
            have q0 := hE.cell pq0
            have q1 := hE.cell pq1
            have q2 := hE.cell pq2
            by_cases hlk : (k : Int) ≤ pickF (q i 2) 6
            · go_wp2_with (go_at_call 37; refine (rpick16_c _ _ _ (by first | exact I0.out | exact I2.out) (by omega) (by omega)).mono ?_; rintro e w' ⟨rfl, rfl⟩)
              obtain ⟨C, hC⟩ : ∃ C, C = arC q i k := ⟨_, rfl⟩
              obtain ⟨Y, hY⟩ : ∃ Y, Y = arR q i y := ⟨_, rfl⟩
              have hC2 : (46 + pickF (q i 0) 8 + (k : Int)) % 48 = (C : Int) := by rw [hC]; unfold arC; omega
              have hY2 : IntKind.i64.wrap (pickF (q i 1) 6 + (y : Int)) = (Y : Int) := by rw [hY]; unfold arR; rw [IntKind.wrap_i64]; omega
              have hC48 : C < 48 := by rw [hC]; exact Nat.mod_lt _ (by decide)
              have hY24 : Y < 24 := by rw [hY]; unfold arR; omega
              rw [hC2]
              have KY := Lib.hid hY2
              have HC := Lib.hid hC
              have HY := Lib.hid hY
              clear hC2 hY2 hC hY
              obtain ⟨hr, cO, b2, hE2⟩ := hF
              have hvl : Globe.validL (outTo (arP q i ++ arY q i y ++ arK q i y k)) = true := (outTo_spec _ _ rfl (fun p hp => by
                rcases List.mem_append.1 hp with hp | hp
                · rcases List.mem_append.1 hp with hp | hp
                  · exact arP_in p hp
                  · exact arY_in (by omega) p hp
                · exact arK_in (by omega) p hp)).1
              generalize hL : outTo (arP q i ++ arY q i y ++ arK q i y k) = L at *
              have hR := Globe.rowN_lt hvl Y
              have d3 : wr.cell? ⟨B, Y, none⟩ = some (.int .i64 (Globe.rowN L Y : Nat)) := by rw [← Globe.rowN_cast hvl]; exact hr.cell hY24
              have d4 := hr.free hY24
              have hbB : b ≠ B := by omega
              have hOB : O ≠ B := by omega
              obtain ⟨s0, s1, s2⟩ := p2_shl (n := C) (by omega)
              have s3 : bits .or .i64 (Globe.rowN L Y : Nat) (p2 C : Nat) = ((Globe.rowN L Y ||| p2 C : Nat) : Int) := or_i64 _ _ (by omega) (by omega)
              have z0 : (0 : Int) ≤ (Y : Int) := by omega
              have z1 : (Y : Int) < 24 := by omega
              have HPut := Lib.hid (show L.set Y ((Globe.rowN L Y ||| p2 C : Nat) : Int) = outTo (arP q i ++ arY q i y ++ arK q i y (k + 1)) from by
                rw [arK_succ, ← List.append_assoc, outTo_snoc, hL, ← HC.out, ← HY.out]; rfl)
              have HLq := Lib.hid hL; clear hL hvl s1 s2 hR
              have Hr := Lib.hid hr; clear hr
              have HE2 := Lib.hid hE2; clear hE2
              generalize Globe.rowN L Y ||| p2 C = RO at *
              generalize Globe.rowN L Y = R0 at *
              clear pq0 pq1 pq2 pq3 q0 q2 hE
              -- <<area
              refine wg_begin [(some 49, [3], []), (some 50, [49], [0]), (some 51, [0], []), (some 52, [4], []), (some 53, [51, 52], [2, 3]), (some 54, [53], [4]), (some 55, [54], [5]), (some 56, [55], [6]), (some 57, [5], []), (some 58, [56, 57], [7, 8]), (some 59, [3], []), (some 60, [59], [10]), (some 61, [0], []), (some 62, [4], []), (some 63, [61, 62], [12, 13]), (some 64, [63], [14]), (some 65, [64], [15]), (some 66, [65], [16, 7]), (some 67, [5], []), (some 68, [66, 67], [17, 18]), (some 69, [60, 68], [11, 19]), (some 70, [69], [20]), (some 71, [7], []), (some 72, [71], [22]), (some 73, [70, 72], [21, 23]), (some 74, [50, 58], [1, 9, 0, 1, 2, 3, 4, 5, 6, 7, 8, 9, 10, 11, 12, 13, 14, 15, 16, 17, 18, 19, 20, 21, 22, 23, 24]), (none, [74, 73], [25, 24, 17, 0, 1, 2, 3, 4, 5, 6, 7, 8, 9, 10, 11, 12, 13, 14, 15, 16, 17, 18, 19, 20, 21, 22, 23, 24])] (fun w' => w'.cell? ⟨O, 0, none⟩ = some (.slice (some ⟨B, 0, none⟩) 24 24) ∧ w'.cell? ⟨b, off + i * 4 + 1, none⟩ = some (.int .i64 (q i 1))) (by kernel_rfl) (by kernel_rfl) (by kernel_rfl) (by kernel_rfl) (by intro c d v a w h; cases d <;> first | exact h | (exact nomatch h.1) | (dsimp +zetaDelta only [Exit.then, Exit.inBlock] at h ⊢; exact h)) (⟨cO, q1⟩) (fun ops Q L hL hR hK hHeld => ?_); replace hL := Lib.hid hL; have hW1 := @evalW_tmp; have hW2 := @evalW_const; have hW3 := @evalW_func; have hW4 := @look_cons; have hW5 := @look_nil
              have r3 := wg_read hL.out 3 rfl
              have r0 := wg_read hL.out 0 rfl
              have r4 := wg_read hL.out 4 rfl
              have r5 := wg_read hL.out 5 rfl
              have r7 := wg_read hL.out 7 rfl
              (refine wg_take 0 (v := ?_) hR rfl (by kernel_rfl) (by kernel_rfl) ?_ (by with_reducible assumption) ?_; rotate_left; (focus (intro w hSw; (try dsimp only at hSw); go_simp; (try with_reducible rfl))); (dsimp only [putW]))
              (refine wg_take 1 (v := ?_) hR rfl (by kernel_rfl) (by kernel_rfl) ?_ (by with_reducible assumption) ?_; rotate_left; (focus (intro w hSw; (try dsimp only at hSw); go_simp; (try with_reducible rfl))); (dsimp only [putW]))
              (refine wg_take 2 (v := ?_) hR rfl (by kernel_rfl) (by kernel_rfl) ?_ (by with_reducible assumption) ?_; rotate_left; (focus (intro w hSw; (try dsimp only at hSw); go_simp; (try with_reducible rfl))); (dsimp only [putW]))
              (refine wg_take 3 (v := ?_) hR rfl (by kernel_rfl) (by kernel_rfl) ?_ (by with_reducible assumption) ?_; rotate_left; (focus (intro w hSw; (try dsimp only at hSw); go_simp; (try with_reducible rfl))); (dsimp only [putW]))
              (refine wg_take 4 (v := ?_) hR rfl (by kernel_rfl) (by kernel_rfl) ?_ (by with_reducible assumption) ?_; rotate_left; (focus (intro w hSw; (try dsimp only at hSw); go_simp; (try with_reducible rfl))); (dsimp only [putW]))
              (refine wg_take 5 (v := ?_) hR rfl (by kernel_rfl) (by kernel_rfl) ?_ (by with_reducible assumption) ?_; rotate_left; (focus (intro w hSw; (try dsimp only at hSw); go_simp; (try with_reducible rfl))); (dsimp only [putW]))
              (refine wg_take 6 (v := ?_) hR rfl (by kernel_rfl) (by kernel_rfl) ?_ (by with_reducible assumption) ?_; rotate_left; (focus (intro w hSw; (try dsimp only at hSw); go_simp; (try with_reducible rfl))); (dsimp only [putW]))
              (refine wg_take 8 (v := ?_) hR rfl (by kernel_rfl) (by kernel_rfl) ?_ (by with_reducible assumption) ?_; rotate_left; (focus (intro w hSw; (try dsimp only at hSw); go_simp; (try with_reducible rfl))); (dsimp only [putW]))
              (refine wg_take 10 (v := ?_) hR rfl (by kernel_rfl) (by kernel_rfl) ?_ (by with_reducible assumption) ?_; rotate_left; (focus (intro w hSw; (try dsimp only at hSw); go_simp; (try with_reducible rfl))); (dsimp only [putW]))
              (refine wg_take 11 (v := ?_) hR rfl (by kernel_rfl) (by kernel_rfl) ?_ (by with_reducible assumption) ?_; rotate_left; (focus (intro w hSw; (try dsimp only at hSw); go_simp; (try with_reducible rfl))); (dsimp only [putW]))
              (refine wg_take 12 (v := ?_) hR rfl (by kernel_rfl) (by kernel_rfl) ?_ (by with_reducible assumption) ?_; rotate_left; (focus (intro w hSw; (try dsimp only at hSw); go_simp; (try with_reducible rfl))); (dsimp only [putW]))
              (refine wg_take 13 (v := ?_) hR rfl (by kernel_rfl) (by kernel_rfl) ?_ (by with_reducible assumption) ?_; rotate_left; (focus (intro w hSw; (try dsimp only at hSw); go_simp; (try with_reducible rfl))); (dsimp only [putW]))
              (refine wg_take 14 (v := ?_) hR rfl (by kernel_rfl) (by kernel_rfl) ?_ (by with_reducible assumption) ?_; rotate_left; (focus (intro w hSw; (try dsimp only at hSw); go_simp; (try with_reducible rfl))); (dsimp only [putW]))
              (refine wg_take 15 (v := ?_) hR rfl (by kernel_rfl) (by kernel_rfl) ?_ (by with_reducible assumption) ?_; rotate_left; (focus (intro w hSw; (try dsimp only at hSw); go_simp; (try with_reducible rfl))); (dsimp only [putW]))
              (refine wg_take 16 (v := ?_) hR rfl (by kernel_rfl) (by kernel_rfl) ?_ (by with_reducible assumption) ?_; rotate_left; (focus (intro w hSw; (try dsimp only at hSw); go_simp; (try with_reducible rfl))); (dsimp only [putW]))
              (refine wg_take 18 (v := ?_) hR rfl (by kernel_rfl) (by kernel_rfl) ?_ (by with_reducible assumption) ?_; rotate_left; (focus (intro w hSw; (try dsimp only at hSw); go_simp; (try with_reducible rfl))); (dsimp only [putW]))
              (refine wg_take 22 (v := ?_) hR rfl (by kernel_rfl) (by kernel_rfl) ?_ (by with_reducible assumption) ?_; rotate_left; (focus (intro w hSw; (try dsimp only at hSw); go_simp; (try with_reducible rfl))); (dsimp only [putW]))
              (refine wg_take 23 (v := ?_) hR rfl (by kernel_rfl) (by kernel_rfl) ?_ (by with_reducible assumption) ?_; rotate_left; (focus (intro w hSw; (try dsimp only at hSw); go_simp; (try with_reducible rfl))); (dsimp only [putW]))
              (refine wg_step 7 hR rfl (by kernel_rfl) (by kernel_rfl) ?_ (by kernel_rfl); refine wg_call (f := 37) (args := ?_) ?_ ?_; rotate_left; (focus (go_simp; first | done | (with_reducible rfl) | (refine ⟨?_, ?_⟩ <;> with_reducible rfl))); (go_at_call 37; refine (rpick16_c _ _ _ I1.out (by omega) (by omega)).mono ?_; rintro e w' ⟨rfl, rfl⟩); refine ⟨_, rfl, hHeld, fun hHeld => ?_⟩; (dsimp only [putW]))
              (refine wg_take 9 (v := ?_) hR rfl (by kernel_rfl) (by kernel_rfl) ?_ (by with_reducible assumption) ?_; rotate_left; (focus (intro w hSw; (try dsimp only at hSw); have k0 := KY.out; go_simp; (try with_reducible rfl))); (dsimp only [putW]))
              (refine wg_step 17 hR rfl (by kernel_rfl) (by kernel_rfl) ?_ (by kernel_rfl); refine wg_call (f := 37) (args := ?_) ?_ ?_; rotate_left; (focus (go_simp; first | done | (with_reducible rfl) | (refine ⟨?_, ?_⟩ <;> with_reducible rfl))); (go_at_call 37; refine (rpick16_c _ _ _ I1.out (by omega) (by omega)).mono ?_; rintro e w' ⟨rfl, rfl⟩); refine ⟨_, rfl, hHeld, fun hHeld => ?_⟩; (dsimp only [putW]))
              (refine wg_take 19 (v := ?_) hR rfl (by kernel_rfl) (by kernel_rfl) ?_ (by with_reducible assumption) ?_; rotate_left; (focus (intro w hSw; (try dsimp only at hSw); have k0 := KY.out; go_simp; (try with_reducible rfl))); (dsimp only [putW]))
              (refine wg_take 20 (v := ?_) hR rfl (by kernel_rfl) (by kernel_rfl) ?_ (by with_reducible assumption) ?_; rotate_left; (focus (intro w hSw; (try dsimp only at hSw); go_simp; (try with_reducible rfl))); (dsimp only [putW]))
              (refine wg_step 21 hR rfl (by kernel_rfl) (by kernel_rfl) ?_ (by kernel_rfl); refine wg_eff (v := ?_) (w' := ?_) ?_ ?_ ?_; rotate_left; rotate_left; (focus (go_simp; first | done | (with_reducible rfl) | (refine ⟨?_, ?_⟩ <;> with_reducible rfl))); (focus (exact hHeld)); intro hHeld; (dsimp only [putW]))
              (refine wg_take 24 (v := ?_) hR rfl (by kernel_rfl) (by kernel_rfl) ?_ (by with_reducible assumption) ?_; rotate_left; (focus (intro w hSw; (try dsimp only at hSw); go_simp; (try with_reducible rfl))); (dsimp only [putW]))
              (refine wg_take 25 (v := ?_) hR rfl (by kernel_rfl) (by kernel_rfl) ?_ (by with_reducible assumption) ?_; rotate_left; (focus (intro w hSw; (try dsimp only at hSw); go_simp; (try with_reducible rfl))); (dsimp only [putW]))
              (refine wg_step 26 hR rfl (by kernel_rfl) (by kernel_rfl) ?_ (by kernel_rfl); refine wg_skp (w' := ?_) ?_ ?_ ?_; rotate_left; (focus (go_simp; first | done | (with_reducible rfl))); (focus (exact ⟨(World.cell?_setCell_other _ _ _ _ (fun e => hOB (congrArg Addr.block e).symm)).trans hHeld.1, (World.cell?_setCell_other _ _ _ _ (fun e => hbB (congrArg Addr.block e).symm)).trans hHeld.2⟩)); intro hHeld; (dsimp only [putW]))
              refine wg_fin hR hK [(49, 25), (0, 24), (0, 23), (0, 22), (0, 21), (0, 20), (0, 19), (0, 7), (0, 18), (0, 6), (0, 17), (0, 16), (0, 15), (0, 14), (0, 13), (0, 12), (0, 11), (0, 5), (0, 10), (0, 4), (0, 3), (0, 2), (0, 9), (0, 8), (0, 1), (0, 0)] (by kernel_rfl) (by kernel_rfl) (by dsimp only [mg, gsOf, valAt]) ?_; clear hW1 hW2 hW3 hW4 hW5 hR hK hL
              clear r3
              clear r0
              clear r4
              clear r5
              clear r7
              -- >>
              go_wp2
              go_roundw
              case rel => exact ⟨k + 1, by omega, by go_num, by rw [← HPut.out]; exact (Hr.out.drew).set hY24 _, hHeld.1, b2.drew.other (p := ⟨B, Y, none⟩) (by show B ≠ _; omega) _, Ext.setCell (Ext.drew HE2.out) (p := ⟨B, Y, none⟩) (by show _ ≤ B; omega) _⟩
              case measure => simp [intOf]; omega
            · go_wp2_with (go_at_call 37; refine (rpick16_c _ _ _ I2.out (by omega) (by omega)).mono ?_; rintro e w' ⟨rfl, rfl⟩)
              go_roundw
              case rel => exact ⟨y + 1, by omega, by go_num, by rw [arY_succ, ← List.append_assoc, show (pickF (q i 2) 6).toNat + 1 = k by omega]; exact hF⟩
              case measure => simp [intOf]; omega
        · go_wp2_with (go_at_call 37; refine (rpick16_c _ _ _ I3.out (by omega) (by omega)).mono ?_; rintro e w' ⟨rfl, rfl⟩)
          go_roundw
          case rel => exact ⟨i + 1, by omega, by omega, by go_num, by rw [arP_succ, show (pickF (q i 3) 4).toNat + 1 = y by omega]; exact hF⟩
          case measure => simp [intOf]; omega
    · have hm : min n 3 = i := by omega
      have hv : Globe.validL (areaL q n) = true := area_valid q n
      have Hm := Lib.hid hm; clear hm
      obtain ⟨hr, cO, ⟨c2, f2⟩, hE⟩ := hF
      by_cases hln : i < n
      · have j1 : (i : Int) < (n : Int) := by omega
        have j2 : ¬ (i : Int) < 3 := by omega
        go_wp2_with fail
        refine bodyPost_ret (v := .agg #[.slice (some ⟨B, 0, none⟩) 24 24]) (by simp [results, Tryd.results11, go_sem, c2]) rfl ⟨B, 24, rfl, by omega, ?_, by (repeat' (first | (with_reducible assumption) | (with_reducible exact Ext.refl _) | (with_reducible refine Ext.alloc ?_ _) | (with_reducible refine Ext.drew ?_) | (with_reducible refine Ext.drewN ?_ _) | (with_reducible refine Ext.setCell ?_ ?_ _) | (with_reducible refine Ext.trans ?_ (by assumption)) | go_size))⟩
        refine VA.other (RowsAt.va (show RowsAt wr B (areaL q n) by unfold areaL; rw [Hm.out]; exact hr) hv) (by show w.heap.size ≠ B; omega) _
      · have j1 : ¬ (i : Int) < (n : Int) := by omega
        go_wp2_with fail
        refine bodyPost_ret (v := .agg #[.slice (some ⟨B, 0, none⟩) 24 24]) (by simp [results, Tryd.results11, go_sem, c2]) rfl ⟨B, 24, rfl, by omega, ?_, by (repeat' (first | (with_reducible assumption) | (with_reducible exact Ext.refl _) | (with_reducible refine Ext.alloc ?_ _) | (with_reducible refine Ext.drew ?_) | (with_reducible refine Ext.drewN ?_ _) | (with_reducible refine Ext.setCell ?_ ?_ _) | (with_reducible refine Ext.trans ?_ (by assumption)) | go_size))⟩
        refine VA.other (RowsAt.va (show RowsAt wr B (areaL q n) by unfold areaL; rw [Hm.out]; exact hr) hv) (by show w.heap.size ≠ B; omega) _

end Go.Proofs.YtglfoglkdbbmmaaDoor

/- Contract of the reference of package cover: Strips. -/
namespace Go.Proofs.YtglfoglkdbbmmaaDoor
open Go.RowKit
open Globe (outTo outTo_snoc outTo_nil outTo_spec)

/-- A slice of one's own, of strips with areas of one's own. -/
def StrOwn (n₀ : Nat) (v : Value) (w : World) (ss : List (List Int × List Int)) : Prop :=
  ∃ vals, w.ownsRow n₀ 28 2 v ss.length vals ∧ ∀ (j : Nat) s, ss[j]? = some s → ∃ B1 k1 B2 k2 : Nat, vals[j * 2]? = some (.slice (some ⟨B1, 0, none⟩) 24 k1) ∧ vals[j * 2 + 1]? = some (.slice (some ⟨B2, 0, none⟩) 24 k2) ∧ VA w B1 0 s.1 ∧ VA w B2 0 s.2
theorem StrOwn.ext {n₀ : Nat} {v : Value} {w w' : World} {ss : List (List Int × List Int)} (h : StrOwn n₀ v w ss) (hE : Ext w w') : StrOwn n₀ v w' ss := by
  obtain ⟨vals, h1, h2⟩ := h
  exact ⟨vals, own_ext h1 hE, fun j s hs => by obtain ⟨B1, k1, B2, k2, q1, q2, q3, q4⟩ := h2 j s hs; exact ⟨B1, k1, B2, k2, q1, q2, q3.ext hE, q4.ext hE⟩⟩
theorem StrOwn.strips {n₀ : Nat} {v : Value} {w : World} {ss : List (List Int × List Int)} (h : StrOwn n₀ v w ss) (hl : ss.length ≤ 140737488355328) : ∃ a c, v = .slice a ss.length c ∧ StripsAt w a ss.length ss := by
  obtain ⟨vals, h2, h3⟩ := h
  rcases h2.2 with ⟨q, q0⟩ | ⟨g, cap, cur, rfl, _, _⟩
  · exact ⟨none, 0, by rw [q, q0], rfl, hl, .inl q0⟩
  · refine ⟨some ⟨g, 0, none⟩, cap, rfl, rfl, hl, .inr ⟨g, 0, rfl, fun i s hs => ?_⟩⟩
    obtain ⟨B1, k1, B2, k2, q1, q2, q3, q4⟩ := h3 i s hs
    have hi := (List.getElem?_eq_some_iff.1 hs).1
    exact ⟨_, _, _, _, _, _, _, _, by rw [Nat.zero_add, h2.cellAt (i * 2) (by omega)]; exact q1, q3.aa, by rw [Nat.zero_add, h2.cellAt (i * 2 + 1) (by omega)]; exact q2, q4.aa⟩
theorem StrOwn.push {n₀ : Nat} {v v' : Value} {w w' : World} {ss : List (List Int × List Int)} (hh : StrOwn n₀ v w ss) {B1 k1 B2 k2 : Nat} {A B : List Int} {xs : List Value} (hrow : w.ownsRow n₀ 28 2 v ss.length xs)
    (hv1 : VA w B1 0 A) (hv2 : VA w B2 0 B) (n1 : v.ownBlock ≠ some B1) (n2 : v.ownBlock ≠ some B2) (hown : w'.ownsRow n₀ 28 2 v' (ss.length + 1) (xs ++ [.slice (some ⟨B1, 0, none⟩) 24 k1, .slice (some ⟨B2, 0, none⟩) 24 k2])) (hg : w.grownBy w' v.ownBlock) : StrOwn n₀ v' w' (ss ++ [(A, B)]) := by
  obtain ⟨vals, h2, h3⟩ := hh
  have hlx : xs.length = ss.length * 2 := hrow.1
  have hval : vals.length = ss.length * 2 := h2.1
  have same : ss ≠ [] → vals = xs := by
    intro hne
    have hpos := List.length_pos_iff.2 hne
    rcases h2.2 with ⟨_, q0⟩ | ⟨g, cap, cur, rfl, _, hc, _, _, _, ht⟩
    · omega
    · rcases hrow.2 with ⟨q, _⟩ | ⟨g', cap', cur', q, _, hc', _, _, _, ht'⟩
      · cases q
      · cases q; rw [hc] at hc'; cases hc'; rw [← ht, ← ht']
  have notown : ∀ {X : Nat} {L : List Int}, ss ≠ [] → VA w X 0 L → v.ownBlock ≠ some X := by
    intro X L hne hX hb
    have hpos := List.length_pos_iff.2 hne
    obtain ⟨C1, c1, C2, c2, q1, _, _, _⟩ := h3 0 _ (List.getElem?_eq_getElem hpos)
    rcases h2.2 with ⟨_, q0⟩ | ⟨g, cap, cur, rfl, _, _⟩
    · omega
    · have e1 := h2.cellAt 0 (by omega)
      have e2 := hX.1 0 (by omega)
      simp [Value.ownBlock] at hb
      subst hb
      rw [e1] at e2
      simp at q1
      rw [q1] at e2; cases e2
  refine ⟨xs ++ [.slice (some ⟨B1, 0, none⟩) 24 k1, .slice (some ⟨B2, 0, none⟩) 24 k2], by rw [List.length_append]; exact hown, fun j s hs => ?_⟩
  rcases Nat.lt_or_ge j ss.length with h | h
  · rw [List.getElem?_append_left h] at hs
    have hne : ss ≠ [] := by intro e; rw [e] at h; simp at h
    obtain ⟨C1, c1, C2, c2, q1, q2, q3, q4⟩ := h3 j s hs
    rw [same hne] at q1 q2
    exact ⟨C1, c1, C2, c2, by rw [List.getElem?_append_left (by omega)]; exact q1, by rw [List.getElem?_append_left (by omega)]; exact q2, q3.grownR hg (notown hne q3), q4.grownR hg (notown hne q4)⟩
  · have hj : j = ss.length := by
      have := (List.getElem?_eq_some_iff.1 hs).1
      rw [List.length_append] at this; simp at this; omega
    subst hj
    rw [List.getElem?_append_right (Nat.le_refl _), Nat.sub_self] at hs
    cases hs
    refine ⟨B1, k1, B2, k2, ?_, ?_, hv1.grownR hg n1, hv2.grownR hg n2⟩
    · rw [List.getElem?_append_right (by omega), hlx, Nat.sub_self]; rfl
    · rw [List.getElem?_append_right (by omega), hlx, show ss.length * 2 + 1 - ss.length * 2 = 1 by omega]; rfl

/-- The strips that integers determine. -/
def sh (q : Nat → Nat → Int) (i : Nat) : Nat → Nat → Int := fun r j => q (i + r) j
def stripN (q : Nat → Nat → Int) (t : Nat) : List Int × List Int := (areaL (sh q (t * 2)) 1, areaL (sh q (t * 2)) 2)
def stripsL (q : Nat → Nat → Int) (t : Nat) : List (List Int × List Int) := (List.range t).map (stripN q)
theorem stripsL_succ (q : Nat → Nat → Int) (t : Nat) : stripsL q (t + 1) = stripsL q t ++ [stripN q t] := by simp [stripsL, List.range_succ]
theorem stripsL_len (q : Nat → Nat → Int) (t : Nat) : (stripsL q t).length = t := by simp [stripsL]
theorem stripN_ok (q : Nat → Nat → Int) (t : Nat) : Globe.stripOk (stripN q t) = true := by
  unfold Globe.stripOk stripN
  rw [area_valid, Bool.true_and]
  refine Globe.contains_of (area_valid _ _) (area_valid _ _) fun x y _ _ h => ?_
  unfold areaL at h ⊢
  rw [(outTo_spec _ _ rfl arP_in).2, decide_eq_true_iff] at h ⊢
  have e : arP (sh q (t * 2)) (min 2 3) = arP (sh q (t * 2)) (min 1 3) ++ arY (sh q (t * 2)) 1 ((pickF (sh q (t * 2) 1 3) 4).toNat + 1) := arP_succ _ 1
  rw [e]
  exact List.mem_append_left _ h
theorem stripsL_ok (q : Nat → Nat → Int) {t : Nat} (h : t ≤ 9) : Globe.stripsOk (stripsL q t) = true := by
  refine Globe.stripsOk_t.2 ⟨by rw [stripsL_len]; omega, fun s hs => ?_⟩
  simp only [stripsL, List.mem_map] at hs
  obtain ⟨i, _, rfl⟩ := hs
  exact stripN_ok q i
theorem QAt.sub {w : World} {b off n : Nat} {q : Nat → Nat → Int} (h : ∀ i, i < n → ∀ j, j < 4 → w.cell? ⟨b, off + i * 4 + j, none⟩ = some (.int .i64 (q i j)) ∧ IsI (q i j)) {i m : Nat} (hm : i + m ≤ n) : QAt w (some ⟨b, off + i * 4, none⟩) m (sh q i) :=
  .inr ⟨b, off + i * 4, rfl, fun r hr j hj => by
    have := h (i + r) (by omega) j hj
    rw [show off + (i + r) * 4 + j = off + i * 4 + r * 4 + j by omega] at this
    exact this⟩
/-- What Strips returns. -/
def RetS (w : World) (ss : List (List Int × List Int)) (e : Ending) (w' : World) : Prop :=
  ∃ (a : Option Addr) (c : Nat), e = .returned (.slice a ss.length c) ∧ StripsAt w' a ss.length ss ∧ Ext w w'

set_option maxRecDepth 100000 in
set_option maxHeartbeats 8000000 in
theorem Strips_c {w0 : World} {a : Option Addr} {n c : Nat} {q : Nat → Nat → Int} (w : World) (h : QAt w0 a n q) (hE0 : Ext w0 w) (hnc : n ≤ c) (hc : c ≤ 9223372036854775807) :
    Calls Tryd.prog 12 #[.slice a n c] w (RetS w (stripsL q (min (n / 2) 9))) := by
  have H := Lib.hid (h.ext hE0); clear h hE0
  obtain ⟨i9, hi, hz0, hz1, hz2⟩ := info_parts (P := Tryd.prog) (e := 28) (z := .agg #[.slice none 0 0, .slice none 0 0]) (size := 2) (bytes := 48) (by kernel_rfl)
  have Hi := Lib.hid (And.intro hi (And.intro hz0 (And.intro hz1 hz2))); clear hi hz0 hz1 hz2
  go_enter Tryd.func12, Tryd.ntmps12
  go_wp2_with fail
  go_loopw [3, 4] (fun v p wr => ∃ (t : Nat) (a1 : Option Addr) (c1 : Nat), t ≤ min (n / 2) 9 ∧ p = .int .i64 ((t * 2 : Nat) : Int) ∧ v = .slice a1 t c1 ∧ Hid (StrOwn w.heap.size (.slice a1 t c1) wr (stripsL q t)) ∧ Ext w wr) (fun _ p _ => 20 - (intOf p).toNat)
  case atStart => exact ⟨0, none, 0, by omega, rfl, rfl, ⟨[], World.ownsRow_nil _ _ _ _, fun j s hs => by simp [stripsL] at hs⟩, Ext.refl _⟩
  case round =>
    obtain ⟨t, a1, c1, ht, rfl, rfl, Hs, hE⟩ := hrel
    by_cases hlt : t * 2 + 1 < n
    · by_cases h9 : t < 9
      · obtain ⟨b, off, rfl, hq⟩ : ∃ b off, a = some ⟨b, off, none⟩ ∧ ∀ i, i < n → ∀ j, j < 4 → w.cell? ⟨b, off + i * 4 + j, none⟩ = some (.int .i64 (q i j)) ∧ IsI (q i j) := H.out.resolve_left (by omega)
        have HQ := Lib.hid hq; clear hq
        obtain ⟨I, hI⟩ : ∃ I, I = t * 2 := ⟨_, rfl⟩
        rw [← hI] at hlt ⊢
        have HI := Lib.hid hI
        have i0 : (0 : Int) ≤ (I : Int) := by omega
        have i1 : (I : Int) + 1 < (n : Int) := by omega
        have i2 : (n : Int) ≤ (c : Int) := by omega
        have i3 : (c : Int) ≤ 9223372036854775807 := by omega
        have i4 : (I : Int) ≤ 100 := by omega
        have i5 : ¬ c = I := by omega
        have i6 : (t : Int) < 9 := by omega
        have j1 : (0 : Int) ≤ (I : Int) + 1 := by omega
        have j2 : (I : Int) + 1 ≤ (c : Int) := by omega
        have j3 : (0 : Int) ≤ (I : Int) + 2 := by omega
        have j4 : (I : Int) + 2 ≤ (c : Int) := by omega
        have k4 : IntKind.i64.wrap ((I : Int) + 1) = (I : Int) + 1 := by rw [IntKind.wrap_i64]; omega
        have k10 : IntKind.i64.wrap ((I : Int) + 2) = (I : Int) + 2 := by rw [IntKind.wrap_i64]; omega
        have J5 := Lib.hid (show (I : Int) ≤ (I : Int) + 2 by omega)
        have J6 := Lib.hid (show ((I : Int) + 2).toNat - I = 2 by omega)
        have K4 := Lib.hid k4; have K10 := Lib.hid k10; clear k4 k10 hI
        obtain ⟨V, rfl⟩ : ∃ V, V = wr := ⟨_, rfl⟩
        go_wp2_with fail
        -- <<strips
        refine wg_begin [(some 17, [3], []), (some 18, [0], []), (some 19, [4], []), (some 20, [4], []), (some 21, [20], [3]), (some 22, [18, 19, 21], [1, 2, 4]), (some 23, [22], [5]), (some 24, [0], []), (some 25, [4], []), (some 26, [4], []), (some 27, [26], [9]), (some 28, [24, 25, 27], [7, 8, 10]), (some 29, [28], [11, 6]), (some 30, [23, 29], [6, 12]), (some 31, [30], [13]), (some 32, [17, 31], [0, 14, 12]), (some 3, [32], [15, 15, 0, 1, 2, 3, 4, 5, 6, 7, 8, 9, 10, 11, 12, 13, 14, 15])] (fun _ => True) (by kernel_rfl) (by kernel_rfl) (by kernel_rfl) (by kernel_rfl) (by intro c d v a w h; cases d <;> first | exact h | (exact nomatch h.1) | (dsimp +zetaDelta only [Exit.then, Exit.inBlock] at h ⊢; exact h)) (trivial) (fun ops Q L hL hR hK hHeld => ?_); replace hL := Lib.hid hL; have hW1 := @evalW_tmp; have hW2 := @evalW_const; have hW3 := @evalW_func; have hW4 := @look_cons; have hW5 := @look_nil
        have r3 := wg_read hL.out 3 rfl
        have r0 := wg_read hL.out 0 rfl
        have r4 := wg_read hL.out 4 rfl
        (refine wg_take 0 (v := ?_) hR rfl (by kernel_rfl) (by kernel_rfl) ?_ (by with_reducible assumption) ?_; rotate_left; (focus (intro w hSw; (try dsimp only at hSw); go_simp; (try with_reducible rfl))); (dsimp only [putW]))
        (refine wg_take 1 (v := ?_) hR rfl (by kernel_rfl) (by kernel_rfl) ?_ (by with_reducible assumption) ?_; rotate_left; (focus (intro w hSw; (try dsimp only at hSw); go_simp; (try with_reducible rfl))); (dsimp only [putW]))
        (refine wg_take 2 (v := ?_) hR rfl (by kernel_rfl) (by kernel_rfl) ?_ (by with_reducible assumption) ?_; rotate_left; (focus (intro w hSw; (try dsimp only at hSw); go_simp; (try with_reducible rfl))); (dsimp only [putW]))
        (refine wg_take 3 (v := ?_) hR rfl (by kernel_rfl) (by kernel_rfl) ?_ (by with_reducible assumption) ?_; rotate_left; (focus (intro w hSw; (try dsimp only at hSw); go_simp; (try with_reducible rfl))); (dsimp only [putW]))
        (refine wg_take 4 (v := ?_) hR rfl (by kernel_rfl) (by kernel_rfl) ?_ (by with_reducible assumption) ?_; rotate_left; (focus (intro w hSw; (try dsimp only at hSw); have k0 := K4.out; go_simp; (try with_reducible rfl))); (dsimp only [putW]))
        (refine wg_take 5 (v := ?_) hR rfl (by kernel_rfl) (by kernel_rfl) ?_ (by with_reducible assumption) ?_; rotate_left; (focus (intro w hSw; (try dsimp only at hSw); go_simp; (try with_reducible rfl))); (dsimp only [putW]))
        (refine wg_take 7 (v := ?_) hR rfl (by kernel_rfl) (by kernel_rfl) ?_ (by with_reducible assumption) ?_; rotate_left; (focus (intro w hSw; (try dsimp only at hSw); go_simp; (try with_reducible rfl))); (dsimp only [putW]))
        (refine wg_take 8 (v := ?_) hR rfl (by kernel_rfl) (by kernel_rfl) ?_ (by with_reducible assumption) ?_; rotate_left; (focus (intro w hSw; (try dsimp only at hSw); go_simp; (try with_reducible rfl))); (dsimp only [putW]))
        (refine wg_take 9 (v := ?_) hR rfl (by kernel_rfl) (by kernel_rfl) ?_ (by with_reducible assumption) ?_; rotate_left; (focus (intro w hSw; (try dsimp only at hSw); go_simp; (try with_reducible rfl))); (dsimp only [putW]))
        (refine wg_take 10 (v := ?_) hR rfl (by kernel_rfl) (by kernel_rfl) ?_ (by with_reducible assumption) ?_; rotate_left; (focus (intro w hSw; (try dsimp only at hSw); have k0 := K10.out; go_simp; (try with_reducible rfl))); (dsimp only [putW]))
        (refine wg_take 11 (v := ?_) hR rfl (by kernel_rfl) (by kernel_rfl) ?_ (by with_reducible assumption) ?_; rotate_left; (focus (intro w hSw; (try dsimp only at hSw); have j5 := J5.out; have j6 := J6.out; go_simp; (try with_reducible rfl))); (dsimp only [putW]))
        (refine wg_step 6 hR rfl (by kernel_rfl) (by kernel_rfl) ?_ (by kernel_rfl); refine wg_call (f := 11) (args := ?_) ?_ ?_; rotate_left; (focus (go_simp; first | done | (with_reducible rfl) | (refine ⟨?_, ?_⟩ <;> with_reducible rfl))); (go_at_call 11; refine (Area_c (c - I) _ (QAt.sub (m := 1) HQ.out (by omega)) (hE.trans (Ext.drew (Ext.refl _))) (by omega)).mono ?_; rintro e w4 ⟨B1, k1, rfl, hB1, hv1, hb4⟩); refine ⟨_, rfl, trivial, fun hHeld => ?_⟩; (dsimp only [putW]))
        (refine wg_step 12 hR rfl (by kernel_rfl) (by kernel_rfl) ?_ (by kernel_rfl); refine wg_call (f := 11) (args := ?_) ?_ ?_; rotate_left; (focus (go_simp; first | done | (with_reducible rfl) | (refine ⟨?_, ?_⟩ <;> with_reducible rfl))); (go_at_call 11; refine (Area_c (c - I) _ (QAt.sub (m := 2) HQ.out (by omega)) (hE.trans ((Ext.drew (Ext.refl _)).trans hb4)) (by omega)).mono ?_; rintro e w5 ⟨B2, k2, rfl, hB2, hv2, hb5⟩; have hE5 : Ext V w5 := (Ext.drew (Ext.refl _)).trans (hb4.trans hb5); have Hs5 := Lib.hid (Hs.out.ext hE5)); refine ⟨_, rfl, trivial, fun hHeld => ?_⟩; (dsimp only [putW]))
        (refine wg_take 13 (v := ?_) hR rfl (by kernel_rfl) (by kernel_rfl) ?_ (by with_reducible assumption) ?_; rotate_left; (focus (intro w hSw; (try dsimp only at hSw); go_simp; (try with_reducible rfl))); (dsimp only [putW]))
        (refine wg_step 14 hR rfl (by kernel_rfl) (by kernel_rfl) ?_ (by kernel_rfl); refine wg_eff (v := ?_) (w' := ?_) ?_ ?_ ?_; rotate_left; rotate_left; (focus (go_simp; first | done | (with_reducible rfl) | (refine ⟨?_, ?_⟩ <;> with_reducible rfl))); (focus (exact trivial)); intro hHeld; (dsimp only [putW]))
        (refine wg_step 15 hR rfl (by kernel_rfl) (by kernel_rfl) ?_ (by kernel_rfl); (obtain ⟨vals, hrow, hpc⟩ := Hs5.out; rw [stripsL_len] at hrow; have hs5 := (hE.trans hE5).size; obtain ⟨v', w6, hrun, hown, hg6, -⟩ := run_append_own (P := Tryd.prog) (w5.alloc (.cells #[.slice (some ⟨B1, 0, none⟩) 24 k1, .slice (some ⟨B2, 0, none⟩) 24 k2] 28)) w.heap.size 26 26 28 i9 (.agg #[.slice none 0 0, .slice none 0 0]) 2 48 Tryd.underlying26 Hi.out.1 Hi.out.2.1 Hi.out.2.2.1 Hi.out.2.2.2 rfl (by decide) (.slice a1 t c1) t vals (own_ext hrow (Ext.alloc (Ext.refl _) _)) ⟨w5.heap.size, 0, none⟩ 1 1 [.slice (some ⟨B1, 0, none⟩) 24 k1, .slice (some ⟨B2, 0, none⟩) 24 k2] rfl (cell_2_new _ _ _ _) (by simp [Value.oneCell']) (by unfold maxLen; omega) (by omega) (by simp; omega); obtain ⟨g', cap', rfl⟩ := ownsRow_succ hown; refine wg_eff (v := .slice (some ⟨g', 0, none⟩) (t + 1) cap') (w' := w6) ?_ ?_ ?_; (focus (simp [execOp, resolve, invoke, builtin, hW1, hW4, hrun, Result.andThen])); (focus (exact trivial)); intro hHeld; (dsimp only [putW])))
        (refine wg_take 16 (v := ?_) hR rfl (by kernel_rfl) (by kernel_rfl) ?_ (by with_reducible assumption) ?_; rotate_left; (focus (intro w hSw; (try dsimp only at hSw); go_simp; (try with_reducible rfl))); (dsimp only [putW]))
        refine wg_fin hR hK [(3, 0), (13, 16), (0, 15), (0, 14), (0, 13), (0, 12), (0, 11), (0, 5), (0, 10), (0, 9), (0, 8), (0, 7), (0, 6), (0, 4), (0, 3), (0, 2), (0, 1)] (by kernel_rfl) (by kernel_rfl) (by dsimp only [mg, gsOf, valAt]) ?_; clear hW1 hW2 hW3 hW4 hW5 hR hK hL
        clear r3
        clear r0
        clear r4
        -- >>
        have hlv := hv1.ext hb5
        have hE6 : Ext V (w5.alloc (.cells #[.slice (some ⟨B1, 0, none⟩) 24 k1, .slice (some ⟨B2, 0, none⟩) 24 k2] 28)) := Ext.alloc hE5 _
        have hVs := hE.size
        obtain ⟨vals0, hown0, -⟩ := Hs.out
        have hpush := StrOwn.push (Hs.out.ext hE6) (own_ext (by rw [stripsL_len]; exact hrow) (Ext.alloc (Ext.refl _) _)) (hlv.ext (Ext.alloc (Ext.refl _) _)) (hv2.ext (Ext.alloc (Ext.refl _) _)) (own_ne2 hown0 (by simp at hB1; omega)) (own_ne2 hown0 (by have := hb4.size; simp at hB2 this; omega)) (by rw [stripsL_len]; exact hown) hg6
        have HP := Lib.hid hpush
        have HE7 := Lib.hid (Ext.own (hE.trans hE6) (own_ext hrow (Ext.alloc (Ext.refl _) _)) hg6)
        clear hpush hown0 hlv hown hg6 hrun hrow hpc hv1 hv2 hb4 hb5 hB1 hB2
        go_wp2_with fail
        go_roundw
        case rel => exact ⟨t + 1, _, _, by have := HI.out; omega, by rw [HI.out]; congr 1; omega, rfl, by rw [stripsL_succ, show stripN q t = (areaL (sh q I) 1, areaL (sh q I) 2) by rw [HI.out]; rfl]; exact HP.out, HE7.out⟩
        case measure => simp [intOf]; have := HI.out; omega
      · have hm : min (n / 2) 9 = t := by omega
        have i1 : (t : Int) * 2 + 1 < (n : Int) := by omega
        have i6 : ¬ (t : Int) < 9 := by omega
        rw [hm]
        go_wp2_with fail
        go_ret
        obtain ⟨aa, ca, e, hS⟩ := Hs.out.strips (by rw [stripsL_len]; omega)
        rw [stripsL_len] at e hS
        cases e
        exact ⟨_, _, by rw [stripsL_len]; rfl, by rw [stripsL_len]; exact hS, hE⟩
    · have hm : min (n / 2) 9 = t := by omega
      have i1 : ¬ (t : Int) * 2 + 1 < (n : Int) := by omega
      rw [hm]
      go_wp2_with fail
      go_ret
      obtain ⟨aa, ca, e, hS⟩ := Hs.out.strips (by rw [stripsL_len]; omega)
      rw [stripsL_len] at e hS
      cases e
      exact ⟨_, _, by rw [stripsL_len]; rfl, by rw [stripsL_len]; exact hS, hE⟩

end Go.Proofs.YtglfoglkdbbmmaaDoor

/- A range over a function whose yields hand on memory: the round may lean on a fact Φ of what it is handed (a list that has just been laid, say). The iterator shows Φ at each of its calls of yield. -/
namespace Go.Proofs.YtglfoglkdbbmmaaDoor
open Go.RowKit

/-- The iterator's contract. -/
def SeqM {α : Type} (P : Program) (g : Nat) (lb : Array Value) (encs : α → Array Value) (Φ : α → World → Prop) (Kp : World → World → Prop) (S Sp : List α → Prop) (w : World) : Prop :=
  ∀ (l : Nat) (J Jx : List α → World → Prop) (W : World), Below w.heap.size w W → AbidesFrom W.heap.size J → AbidesFrom W.heap.size Jx →
    (∀ pre x W1 m, J pre W1 → Φ x W1 → YieldAt Fence.wide m P l (encs x) W1 fun e W' => (e = .returned (.bool true) ∧ J (pre ++ [x]) W' ∧ Kp W1 W') ∨ (e = .returned (.bool false) ∧ Jx (pre ++ [x]) W' ∧ Kp W1 W')) →
    J [] W → ∀ n, CallsIn Fence.wide n P g (#[.func (.yield l) #[] #[]] ++ lb) W fun e W' => (∃ v, e = .returned v) ∧ ((∃ xs, S xs ∧ J xs W') ∨ (∃ pre, Sp pre ∧ Jx pre W'))

/-- How a round may be left: each way keeps what the iterator wants kept. -/
def roundM {α : Type} (B : Nat) (Kp : World → World → Prop) (I : List α → World → Prop) (Ix : Code → List α → World → Prop) (xs : List α) (W : World) : Exit → Act → World → Prop
  | .normal, _, W' => KeepsFrom B W W' ∧ Kp W W' ∧ I xs W'
  | .ret, _, W' => KeepsFrom B W W' ∧ Kp W W' ∧ Ix .ret xs W'
  | .exit id, _, W' => KeepsFrom B W W' ∧ Kp W W' ∧ Ix (.exit id) xs W'
  | .goto t, _, W' => KeepsFrom B W W' ∧ Kp W W' ∧ Ix (.goto t) xs W'
  | .panic _, _, _ => False
  | .outgrown, _, _ => False
/-- The loop's record. -/
def recOf (a : Act) (ps : Array Tmp) (assign body : Code) (fn : FuncId) (D : Nat) (st : LoopState) (pe : Option Code) : Loop := { state := st, pending := pe, fn, tmps := a.tmps, params := ps, assign, body, defers := D }

theorem rangeFunc_mem {α : Type} {P : Program} {n : Nat} {g : Operand} {ps : Array Tmp} {assign body : Code} {Q : Exit → Act → World → Prop} {a : Act} {w : World}
    {gf : Nat} {lb : Array Value} (hg : a.eval g = .func (.func gf) #[] lb) (eg : ∀ args w, (callFunc gf args).run P w = .ok (.enter gf args) w)
    {encs : α → Array Value} {Φ : α → World → Prop} {Kp : World → World → Prop} {S Sp : List α → Prop} {w0 : World} (hseq : SeqM P gf lb encs Φ Kp S Sp w0) (hb0 : Below w0.heap.size w0 w) (hps : ∀ x, (encs x).size = ps.size)
    (hΦ : ∀ x, OwnFrom w.heap.size (fun (_ : Unit) W => Φ x W))
    (hKt : ∀ {A B C : World}, Kp A B → Kp B C → Kp A C) (hKb : ∀ (W : World) (l : Nat) (o o' : Obj), w.heap.size ≤ l → W.heap[l]? = some o → o.isCells = false → o.isWalk = false → Kp W (W.putObj l o'))
    (I : List α → World → Prop) (Ix : Code → List α → World → Prop) (hI : OwnFrom w.heap.size I) (hIx : ∀ c, OwnFrom w.heap.size (Ix c)) (h0 : I [] w) (a₁ : α → Act)
    (hassign : ∀ (l m : Nat) (x : α) (W : World) (K : Act → World → Prop), K (a₁ x) W →
      assign.wpIn (Fence.wide.inRound l) m P (Exit.then K (fun _ _ _ => False)) { tmps := (ps.zip (encs x)).foldl (fun t (p, v) => t.setIfInBounds p v) a.tmps, defers := [] } W)
    (hbody : ∀ (l m : Nat) (pre : List α) (x : α) (W : World), I pre W → Φ x W → body.wpIn (Fence.wide.inRound l) m P (roundM w.heap.size Kp I Ix (pre ++ [x]) W) (a₁ x) W)
    (hdone : ∀ (D : Nat) (xs : List α) (W : World), w.heap.size ≤ D → S xs → I xs W → W.heap[D]? = some (.deferred (some [])) → Q .normal { a with defers := { target := .collected D, args := #[] } :: a.defers } W)
    (hstop : ∀ (D : Nat) (c : Code) (pre : List α) (W : World), w.heap.size ≤ D → Sp pre → Ix c pre W → W.heap[D]? = some (.deferred (some [])) → c.wpIn Fence.wide n P Q { a with defers := { target := .collected D, args := #[] } :: a.defers } W) :
    (Code.rangeFunc g ps assign body).wpIn Fence.wide n P Q a w := by
  refine wpIn_rangeFunc fun fn hfn => ?_
  let R := recOf a ps assign body fn w.heap.size
  have dn : ∀ st pe, (Obj.loop (R st pe)).isCells = false ∧ (Obj.loop (R st pe)).isWalk = false := fun _ _ => ⟨rfl, rfl⟩
  have dd : (Obj.deferred (some [])).isCells = false ∧ (Obj.deferred (some [])).isWalk = false := ⟨rfl, rfl⟩
  let W1 := (w.alloc (.deferred (some []))).alloc (.loop (R .ready none))
  have sz : W1.heap.size = w.heap.size + 2 := by simp [W1]
  have hL1 : W1.heap[w.heap.size + 1]? = some (.loop (R .ready none)) := by
    have := World.alloc_heap_new (w.alloc (.deferred (some []))) (.loop (R .ready none))
    rwa [World.size_alloc] at this
  have hK1 : W1.heap[w.heap.size]? = some (.deferred (some [])) := (Below.heap_alloc _ _ _ (by simp)).trans (World.alloc_heap_new w _)
  refine ⟨w.heap.size + 1, [{ target := .collected w.heap.size, args := #[] }], W1, { target := .fn (.func gf) lb, args := #[.func (.yield (w.heap.size + 1)) #[] #[]] }, W1, gf, #[.func (.yield (w.heap.size + 1)) #[] #[]] ++ lb, W1,
    run_enterLoop_outer _ _ _ _ _, ?_, fun _ _ => trivial, by simp [invoke, go_sem, eg], fun h => by simp [Fence.wide] at h, ?_⟩
  · simp only [resolve, hg]; simp [go_sem]
  -- what the iterator's own steps turn are walks' objects beyond W1: neither the record nor the mark's block
  have far : ∀ {A : World} {row : Option Nat}, (∀ r, row = some r → W1.heap.size ≤ r ∧ ∃ o : Obj, A.heap[r]? = some o ∧ o.isWalk = true) → (∀ r, row = some r → w.heap.size ≤ r ∧ ∃ o : Obj, A.heap[r]? = some o ∧ o.isCells = false) :=
    fun h r e => by obtain ⟨hB, o, ho, hw⟩ := h r e; exact ⟨by omega, o, ho, Obj.not_cells_of_walk hw⟩
  have stays : ∀ {A B : World} {row : Option Nat} {k : Nat} {o : Obj}, A.grownBy B row → (∀ r, row = some r → W1.heap.size ≤ r ∧ ∃ o : Obj, A.heap[r]? = some o ∧ o.isWalk = true) → A.heap[k]? = some o → o.isWalk = false → B.heap[k]? = some o :=
    fun h hr hk hw => (grownBy_keeps h (fun r e => (hr r e).2) hk hw).trans hk
  refine (hseq (w.heap.size + 1)
    (fun pre W => I pre W ∧ W.heap[w.heap.size + 1]? = some (.loop (R .ready none)) ∧ W.heap[w.heap.size]? = some (.deferred (some [])))
    (fun pre W => ∃ c, Ix c pre W ∧ W.heap[w.heap.size + 1]? = some (.loop (R .done (some c))) ∧ W.heap[w.heap.size]? = some (.deferred (some [])))
    W1 (hb0.trans ((((Below.refl _ w).alloc (Nat.le_refl _) _).alloc (by simp) _).mono hb0.size))
    (fun s A B row hs h hr => ⟨hI s A B row hs.1 h (far hr), stays h hr hs.2.1 rfl, stays h hr hs.2.2 rfl⟩)
    (fun s A B row ⟨c, hs, h1, h2⟩ h hr => ⟨c, hIx c s A B row hs h (far hr), stays h hr h1 rfl, stays h hr h2 rfl⟩)
    ?_ ⟨hI.alloc _ (hI.alloc _ h0), hL1, hK1⟩ _).mono ?_
  · rintro pre x W m ⟨hi, hl, hk⟩ hx
    have hlt := (Array.getElem?_eq_some_iff.1 hl).1
    refine ⟨fn, _, assign, body, run_yield (P := P) (args := encs x) hl (hps x), roundIn_of_wpIn hfn (hassign _ _ x W _ ⟨_, run_beginRound hl rfl, ?_⟩)⟩
    let W2 := W.putObj (w.heap.size + 1) (.loop (R .busy none))
    have hl2 : W2.heap[w.heap.size + 1]? = some (.loop (R .busy none)) := World.putObj_heap_same hlt
    have hk2 : W2.heap[w.heap.size]? = some (.deferred (some [])) := (World.putObj_heap_other (by omega)).trans hk
    have leave : ∀ (jump : Option Code) (W3 : World), KeepsFrom w.heap.size W2 W3 →
        W3.heap[w.heap.size + 1]? = some (.loop (R .busy none)) ∧
        (Instr.endRound (w.heap.size + 1) jump).run P W3 = .ok (.bool jump.isNone) (W3.putObj (w.heap.size + 1) (.loop (R (if jump.isNone then .ready else .done) jump))) ∧
        (W3.putObj (w.heap.size + 1) (.loop (R (if jump.isNone then .ready else .done) jump))).heap[w.heap.size + 1]? = some (.loop (R (if jump.isNone then .ready else .done) jump)) ∧
        (W3.putObj (w.heap.size + 1) (.loop (R (if jump.isNone then .ready else .done) jump))).heap[w.heap.size]? = some (.deferred (some [])) := fun jump W3 h3 => by
      have hl3 := h3.same _ _ (by omega) hl2 rfl
      exact ⟨hl3, run_endRound (P := P) jump hl3, World.putObj_heap_same (Array.getElem?_eq_some_iff.1 hl3).1, (World.putObj_heap_other (by omega)).trans (h3.same _ _ (Nat.le_refl _) hk2 rfl)⟩
    refine wpIn_mono (hbody _ _ pre x _ (hI.putObj _ hi (by omega) hl rfl) ((hΦ x).putObj (s := ()) _ hx (by omega) hl rfl)) fun e a3 W3 hp => ?_
    cases e with
    | normal =>
      obtain ⟨h3, hkp, hi3⟩ := hp
      obtain ⟨hl3, hr, q1, q2⟩ := leave none W3 h3
      exact ⟨_, _, hr, .inl ⟨rfl, ⟨hI.putObj _ hi3 (by omega) hl3 rfl, q1, q2⟩, hKt (hKt (hKb _ _ _ _ (by omega) hl rfl rfl) hkp) (hKb _ _ _ _ (by omega) hl3 rfl rfl)⟩⟩
    | ret =>
      obtain ⟨h3, hkp, hi3⟩ := hp
      obtain ⟨hl3, hr, q1, q2⟩ := leave (some .ret) W3 h3
      exact ⟨_, _, hr, .inr ⟨rfl, ⟨_, (hIx _).putObj _ hi3 (by omega) hl3 rfl, q1, q2⟩, hKt (hKt (hKb _ _ _ _ (by omega) hl rfl rfl) hkp) (hKb _ _ _ _ (by omega) hl3 rfl rfl)⟩⟩
    | exit id =>
      obtain ⟨h3, hkp, hi3⟩ := hp
      obtain ⟨hl3, hr, q1, q2⟩ := leave (some (.exit id)) W3 h3
      exact ⟨_, _, hr, .inr ⟨rfl, ⟨_, (hIx _).putObj _ hi3 (by omega) hl3 rfl, q1, q2⟩, hKt (hKt (hKb _ _ _ _ (by omega) hl rfl rfl) hkp) (hKb _ _ _ _ (by omega) hl3 rfl rfl)⟩⟩
    | goto t =>
      obtain ⟨h3, hkp, hi3⟩ := hp
      obtain ⟨hl3, hr, q1, q2⟩ := leave (some (.goto t)) W3 h3
      exact ⟨_, _, hr, .inr ⟨rfl, ⟨_, (hIx _).putObj _ hi3 (by omega) hl3 rfl, q1, q2⟩, hKt (hKt (hKb _ _ _ _ (by omega) hl rfl rfl) hkp) (hKb _ _ _ _ (by omega) hl3 rfl rfl)⟩⟩
    | panic _ => exact hp.elim
    | outgrown => exact hp.elim
  · rintro e W2 ⟨⟨v, rfl⟩, (⟨xs, hS, hi, hl, hk⟩ | ⟨pre, hSp, c, hi, hl, hk⟩)⟩
    · exact ⟨none, _, run_endLoop (P := P) hl (by simp [R, recOf]), hdone _ xs _ (Nat.le_refl _) hS (hI.putObj _ hi (by omega) hl rfl) ((World.putObj_heap_other (by omega)).trans hk)⟩
    · exact ⟨some c, _, run_endLoop (P := P) hl (by simp [R, recOf]), hstop _ c pre _ (Nat.le_refl _) hSp ((hIx c).putObj _ hi (by omega) hl rfl) ((World.putObj_heap_other (by omega)).trans hk)⟩

/-- Leaving with the marks of several such loops: each block for deferred calls is taken over, and is empty. -/
theorem leaves_marks {F : Fence} {n : Nat} {P : Program} {fn : Func} {tmps : Array Value} {R : Ending → World → Prop} (n₀ : Nat) (Pw : World → Prop)
    (hP : ∀ D W, n₀ ≤ D → Pw W → W.heap[D]? = some (.deferred (some [])) → Pw (W.putObj D (.deferred none))) (hend : ∀ W, Pw W → LeavesIn F n P fn tmps R [] .returning W) :
    ∀ (Ds : List Nat) (W : World), Ds.Nodup → (∀ D ∈ Ds, n₀ ≤ D ∧ W.heap[D]? = some (.deferred (some []))) → Pw W → LeavesInM F n P fn tmps R (Ds.map fun D => { target := .collected D, args := #[] }) .returning W
  | [], W, _, _, h => hend W h
  | D :: r, W, hn, hd, h => by
    obtain ⟨hD, hn'⟩ := List.nodup_cons.1 hn
    obtain ⟨h0, h1⟩ := hd D (by simp)
    refine ⟨by simp, .inl ⟨D, _, rfl, run_takeDeferred h1, ?_⟩⟩
    refine leaves_marks n₀ Pw hP hend r _ hn' (fun D' hD' => ?_) (hP D W h0 h h1)
    obtain ⟨q0, q1⟩ := hd D' (by simp [hD'])
    exact ⟨q0, (World.putObj_heap_other (fun e => hD (by rw [← e]; exact hD'))).trans q1⟩

end Go.Proofs.YtglfoglkdbbmmaaDoor

/- Contracts of package cover: the lists of indices, one after the other. -/
namespace Go.Proofs.YtglfoglkdbbmmaaDoor
open Go.RowKit Go.Shelf

attribute [local go_sem] Oper.semAt_some

/-- Whatever holds cells lies as it lay, but for the blocks of X. -/
structure KeepC (X : Nat → Prop) (A B : World) : Prop where
  size : A.heap.size ≤ B.heap.size
  block : ∀ (k : Nat) (o : Obj), A.heap[k]? = some o → o.isCells = true → ¬ X k → B.heap[k]? = some o
theorem KeepC.refl (X : Nat → Prop) (A : World) : KeepC X A A := ⟨Nat.le_refl _, fun _ _ h _ _ => h⟩
theorem KeepC.trans {X : Nat → Prop} {A B C : World} (h : KeepC X A B) (k : KeepC X B C) : KeepC X A C := ⟨Nat.le_trans h.size k.size, fun i o hi hc hx => k.block i o (h.block i o hi hc hx) hc hx⟩
theorem KeepC.of_ext {X : Nat → Prop} {A B : World} (h : Ext A B) : KeepC X A B := ⟨h.size, fun k _ hk _ _ => (Below.block h k (Array.getElem?_eq_some_iff.1 hk).1).trans hk⟩
theorem KeepC.setCell {X : Nat → Prop} (A : World) {p : Addr} (hp : X p.block) (u : Value) : KeepC X A (A.setCell p u) :=
  ⟨by simp [World.setCell], fun k o hk _ hx => (Below.heap_setCell _ _ _ k (fun e => hx (by first | (rw [e]; exact hp) | (rw [← e]; exact hp)))).trans hk⟩
theorem KeepC.putObj {X : Nat → Prop} (W : World) {l : Nat} {o : Obj} (o' : Obj) (h : W.heap[l]? = some o) (hc : o.isCells = false) : KeepC X W (W.putObj l o') :=
  ⟨by simp [World.putObj], fun k o2 hk h2 _ => (World.putObj_heap_other (fun e => by subst e; rw [h] at hk; cases hk; rw [hc] at h2; cases h2)).trans hk⟩
theorem cells_of_cell {W : World} {a : Addr} {v : Value} (h : W.cell? a = some v) : ∃ o, W.heap[a.block]? = some o ∧ o.isCells = true := by
  unfold World.cell? at h
  cases ho : W.heap[a.block]? with
  | none => simp [ho] at h
  | some o => exact ⟨o, rfl, by cases o <;> simp_all [Obj.isCells]⟩
theorem KeepC.cell {X : Nat → Prop} {A B : World} (h : KeepC X A B) {a : Addr} {v : Value} (hc : A.cell? a = some v) (hx : ¬ X a.block) : B.cell? a = some v := by
  obtain ⟨o, ho, hi⟩ := cells_of_cell hc
  rw [World.cell?_of_block (w := A) ((h.block _ o ho hi hx).trans ho.symm)]; exact hc
theorem KeepC.free {X : Nat → Prop} {A B : World} (h : KeepC X A B) {a : Addr} {v : Value} (hc : A.cell? a = some v) (hx : ¬ X a.block) (hf : A.frozen? a = false) : B.frozen? a = false := by
  obtain ⟨o, ho, hi⟩ := cells_of_cell hc
  exact (World.frozen?_of_block ((h.block _ o ho hi hx).trans ho.symm)).trans hf

/-- A list of indices as ints. -/
def intsN (l : List Nat) : List Int := l.map fun (i : Nat) => (i : Int)
theorem intsN_len (l : List Nat) : (intsN l).length = l.length := by simp [intsN]
theorem intsN_snoc (l : List Nat) (i : Nat) : intsN (l ++ [i]) = intsN l ++ [(i : Int)] := by simp [intsN]

/-- The slice of a list that is not empty lies at some address; that of the empty list is nil. -/
def ListAt (W : World) (a : Option Addr) (c : Nat) (l : List Nat) : Prop := (l = [] ∧ a = none ∧ c = 0) ∨ (l ≠ [] ∧ l.length ≤ c ∧ ∃ b off, a = some ⟨b, off, none⟩ ∧ ∀ i, i < l.length → W.cell? ⟨b, off + i, none⟩ = some (.int .i64 (Globe.nth (intsN l) i)))
theorem ListAt.ints {W : World} {a : Option Addr} {c : Nat} {l : List Nat} (h : ListAt W a c l) : IntsAt W a (intsN l) := by
  rcases h with ⟨rfl, _⟩ | ⟨_, _, b, off, rfl, h⟩
  · exact .inl (by rfl)
  · exact .inr ⟨b, off, rfl, fun i hi => h i (by rwa [intsN_len] at hi)⟩
theorem ListAt.ext {W W' : World} {a : Option Addr} {c : Nat} {l : List Nat} (h : ListAt W a c l) (hE : Ext W W') : ListAt W' a c l :=
  h.imp id fun ⟨h1, h2, b, off, ha, hc⟩ => ⟨h1, h2, b, off, ha, fun i hi => hE.cell (hc i hi)⟩
theorem ListAt.keep {X : Nat → Prop} {W W' : World} {a : Option Addr} {c : Nat} {l : List Nat} (h : ListAt W a c l) (hk : KeepC X W W') (hx : ∀ b off, a = some ⟨b, off, none⟩ → ¬ X b) : ListAt W' a c l :=
  h.imp id fun ⟨h1, h2, b, off, ha, hc⟩ => ⟨h1, h2, b, off, ha, fun i hi => hk.cell (hc i hi) (hx b off ha)⟩
theorem list_of_own {w : World} {base : Nat} {v : Value} {l : List Nat} (h : w.ownsRow base 3 1 v l.length (intVals (intsN l))) (hl : l ≠ []) : ∃ g k, v = .slice (some ⟨g, 0, none⟩) l.length k ∧ base ≤ g ∧ l.length ≤ k ∧ ListAt w (some ⟨g, 0, none⟩) k l := by
  have hpos : 0 < l.length := List.length_pos_iff.2 hl
  rcases h.2 with ⟨_, h0⟩ | ⟨g, cap, cur, rfl, hb, _, hcap, _⟩
  · omega
  · refine ⟨g, cap, rfl, hb, hcap, .inr ⟨hl, hcap, g, 0, rfl, fun i hi => ?_⟩⟩
    rw [Nat.zero_add, h.cellAt i (by omega)]
    simp [intVals, Globe.nth, intsN, hi]

set_option maxHeartbeats 1000000 in
/-- slices.Clone, at a list of indices. -/
theorem CloneN_c (a : Option Addr) (c : Nat) (l : List Nat) (w : World) (h : ListAt w a c l) (hl : l.length ≤ 1000) :
    Calls Tryd.prog 66 #[.slice a l.length c] w fun e w' => ∃ a' k, e = .returned (.slice a' l.length k) ∧ ListAt w' a' k l ∧ (∀ b off, a' = some ⟨b, off, none⟩ → off = 0) ∧ Ext w w' := by
  rcases h with ⟨rfl, rfl, rfl⟩ | ⟨hne, hcl, b, o, rfl, hx0⟩
  · have hn : ∀ w, (binOp .eql 23 (.slice none 0 0) (.slice none 0 0)).run Tryd.prog w = .ok (.bool true) w := fun _ => by kernel_rfl
    rw [List.length_nil]
    clear hl
    go_enter Tryd.func66, Tryd.ntmps66
    go_wp2_with fail
    go_ret
    exact ⟨none, 0, rfl, .inl ⟨rfl, rfl, rfl⟩, fun b off e => (by cases e), Ext.refl _⟩
  · obtain ⟨i0, hi, hz0, hz1, hz2⟩ := info_parts (P := Tryd.prog) (e := 3) (z := .int .i64 0) (size := 1) (bytes := 8) (by kernel_rfl)
    have hn : ∀ w, (binOp .eql 23 (.slice (some ⟨b, o, none⟩) l.length c) (.slice none 0 0)).run Tryd.prog w = .ok (.bool false) w := fun _ => by kernel_rfl
    have hx : ∀ j u, (intVals (intsN l))[j]? = some u → w.cell? ((⟨b, o, none⟩ : Addr).add j) = some u := fun j u hj => by
      have hjl : j < (intsN l).length := by rw [← List.length_map (f := Value.int .i64)]; exact (List.getElem?_eq_some_iff.1 hj).1
      have e := intVals_at hjl
      rw [List.getElem?_toArray, hj] at e
      cases e
      rw [Addr.add_mid]; exact hx0 j (by rwa [intsN_len] at hjl)
    have Hx := Lib.hid hx; clear hx hx0
    go_enter Tryd.func66, Tryd.ntmps66
    go_wp2_with (at_builtin; refine wpList_append_own _ rfl _ _ 23 rfl w.heap.size 3 i0 (.int .i64 0) 1 8 Tryd.underlying23 hi hz0 hz1 hz2 rfl (by decide) _ 0 [] rfl (World.ownsRow_made w #[] 0 (Nat.le_refl _) (by unfold maxLen; omega) rfl) ⟨b, o, none⟩ l.length c (intVals (intsN l)) rfl (by simp [intVals, intsN]) (fun j u hj => Ext.cell (by (repeat' (first | (with_reducible assumption) | (with_reducible exact Ext.refl _) | (with_reducible refine Ext.alloc ?_ _) | (with_reducible refine Ext.drew ?_) | (with_reducible refine Ext.drewN ?_ _) | (with_reducible refine Ext.setCell ?_ ?_ _) | (with_reducible refine Ext.trans ?_ (by assumption)) | go_size))) (Hx.out j u hj)) (by simp [intVals, Value.oneCell']) (by unfold maxLen; omega) (by omega) (by simp) ?_; intro v' w3 hown' hg3 hnil3; go_frame)
    have hE : Ext w w3 := ((Below.refl _ w).alloc (Nat.le_refl _) _).grown hg3 (by simp) (fun j e => by simp [Act.eval, Value.ownBlock] at e; omega)
    obtain ⟨g, k, rfl, hg, -, hr⟩ := list_of_own (by simpa using hown') hne
    go_ret
    exact ⟨_, k, rfl, hr, fun b off e => (by cases e; rfl), hE⟩

end Go.Proofs.YtglfoglkdbbmmaaDoor

/- Contracts of package cover: the function that calls itself and yields the lists of indices. -/
namespace Go.Proofs.YtglfoglkdbbmmaaDoor
open Go.RowKit Go.Shelf

attribute [local go_sem] Oper.semAt_some

abbrev YL := Option Addr × Nat × List Nat
def encL (x : YL) : Array Value := #[.slice x.1 x.2.2.length x.2.1]
def PhiL (n : Nat) (x : YL) (W : World) : Prop := ListAt W x.1 x.2.1 x.2.2 ∧ x.2.2.length ≤ 1000 ∧ Globe.asc n 0 x.2.2 ∧ ∀ b off, x.1 = some ⟨b, off, none⟩ → off = 0
/-- The four boxes that the function has captured. -/
def WB (X : Nat → Prop) (Kb Yb Nb Wb l n k : Nat) (W : World) : Prop :=
  W.cell? ⟨Kb, 0, none⟩ = some (.int .i64 (k : Int)) ∧ W.cell? ⟨Yb, 0, none⟩ = some (.func (.yield l) #[] #[]) ∧ W.cell? ⟨Nb, 0, none⟩ = some (.int .i64 (n : Int)) ∧
  W.cell? ⟨Wb, 0, none⟩ = some (.func (.func 72) #[] #[.pointer (some ⟨Kb, 0, none⟩), .pointer (some ⟨Yb, 0, none⟩), .pointer (some ⟨Nb, 0, none⟩), .pointer (some ⟨Wb, 0, none⟩)]) ∧ ¬ X Kb ∧ ¬ X Yb ∧ ¬ X Nb ∧ ¬ X Wb
theorem WB.keep {X : Nat → Prop} {Kb Yb Nb Wb l n k : Nat} {W W' : World} (h : WB X Kb Yb Nb Wb l n k W) (hk : KeepC X W W') : WB X Kb Yb Nb Wb l n k W' := by
  obtain ⟨h1, h2, h3, h4, x1, x2, x3, x4⟩ := h
  exact ⟨hk.cell h1 x1, hk.cell h2 x2, hk.cell h3 x3, hk.cell h4 x4, x1, x2, x3, x4⟩

/-- What the function hands back, m further indices from next on. -/
def WPost (X : Nat → Prop) (J Jx : List YL → World → Prop) (n m : Nat) (lst : List Nat) (next : Nat) (pre : List YL) (W : World) (e : Ending) (W' : World) : Prop :=
  (e = .returned (.bool true) ∧ ∃ xs : List YL, xs.map (fun x => x.2.2) = Globe.combs n m lst next ∧ J (pre ++ xs) W' ∧ KeepC X W W') ∨
  (e = .returned (.bool false) ∧ ∃ q : List YL, q.map (fun x => x.2.2) <+: Globe.combs n m lst next ∧ Jx (pre ++ q) W' ∧ KeepC X W W')

theorem two_ends {e : Ending} {A B : Prop} (h : (e = .returned (.bool true) ∧ A) ∨ (e = .returned (.bool false) ∧ B)) : ∃ r, e = .returned (.bool r) ∧ Hid ((r = true ∧ A) ∨ (r = false ∧ B)) := by
  rcases h with ⟨rfl, q⟩ | ⟨rfl, q⟩
  · exact ⟨_, rfl, .inl ⟨rfl, q⟩⟩
  · exact ⟨_, rfl, .inr ⟨rfl, q⟩⟩
set_option maxHeartbeats 2000000 in
theorem walk0 {X : Nat → Prop} {Kb Yb Nb Wb l n k : Nat} {J Jx : List YL → World → Prop} {B0 : Nat} (hJ : AbidesFrom B0 J)
    (hY : ∀ pre x W1 m, J pre W1 → PhiL n x W1 → YieldAt Fence.wide m Tryd.prog l (encL x) W1 fun e W' => (e = .returned (.bool true) ∧ J (pre ++ [x]) W' ∧ KeepC X W1 W') ∨ (e = .returned (.bool false) ∧ Jx (pre ++ [x]) W' ∧ KeepC X W1 W'))
    (a : Option Addr) (c : Nat) (lst : List Nat) (next d : Nat) (pre : List YL) (W : World) (hlen : lst.length = k) (hk : k ≤ 1000) (hl : ListAt W a c lst) (ha : Globe.asc n 0 lst) (hb : WB X Kb Yb Nb Wb l n k W) (hJ0 : J pre W) :
    CallsIn Fence.wide d Tryd.prog 72 #[.slice a lst.length c, .int .i64 (next : Int), .pointer (some ⟨Kb, 0, none⟩), .pointer (some ⟨Yb, 0, none⟩), .pointer (some ⟨Nb, 0, none⟩), .pointer (some ⟨Wb, 0, none⟩)] W (WPost X J Jx n 0 lst next pre W) := by
  obtain ⟨h1, h2, h3, h4, x1, x2, x3, x4⟩ := hb
  subst hlen
  refine callsIn_of_wp Tryd.func72 rfl trivial ?_ rfl
  simp only [Tryd.ntmps72, List.size_toArray, List.length_cons, List.length_nil, Nat.reduceAdd, Nat.reduceSub, Array.replicate_succ, Array.replicate_zero, List.push_toArray, List.append_toArray, List.nil_append, List.cons_append]
  gi_wp2_with fail
  have HJ := Lib.hid hJ0; clear hJ0
  have HL := Lib.hid hl; clear hl
  have HA := Lib.hid ha; clear ha
  have HY := Lib.hid hY; clear hY
  have HJA := Lib.hid hJ; clear hJ
  gi_region_with (first
    | (refine ⟨trivial, wide_depth, ?_⟩; gi_at_call 66; refine (callsIn_wide.2 (CloneN_c a c lst _ (HL.out.ext (by (repeat' (first | (with_reducible assumption) | (with_reducible exact Ext.refl _) | (with_reducible refine Ext.alloc ?_ _) | (with_reducible refine Ext.drew ?_) | (with_reducible refine Ext.drewN ?_ _) | (with_reducible refine Ext.setCell ?_ ?_ _) | (with_reducible refine Ext.trans ?_ (by assumption)) | go_size)))) hk)).mono ?_; rintro e w1 ⟨a', k', rfl, hl1, hoff, hb⟩; have h2' := Ext.cell (show Ext W w1 by (repeat' (first | (with_reducible assumption) | (with_reducible exact Ext.refl _) | (with_reducible refine Ext.alloc ?_ _) | (with_reducible refine Ext.drew ?_) | (with_reducible refine Ext.drewN ?_ _) | (with_reducible refine Ext.setCell ?_ ?_ _) | (with_reducible refine Ext.trans ?_ (by assumption)) | go_size))) h2; obtain ⟨fn, tmps, assign, body, hyy, hRd⟩ := HY.out pre ⟨a', k', lst⟩ w1 (d - 1) (HJA.out _ _ _ none HJ.out (Ext.grownNone (show Ext W w1 by (repeat' (first | (with_reducible assumption) | (with_reducible exact Ext.refl _) | (with_reducible refine Ext.alloc ?_ _) | (with_reducible refine Ext.drew ?_) | (with_reducible refine Ext.drewN ?_ _) | (with_reducible refine Ext.setCell ?_ ?_ _) | (with_reducible refine Ext.trans ?_ (by assumption)) | go_size)))) (fun r e => by cases e)) ⟨hl1, hk, HA.out, hoff⟩; dsimp only [encL] at hyy; have hE1 := Lib.hid (show Ext W w1 by (repeat' (first | (with_reducible assumption) | (with_reducible exact Ext.refl _) | (with_reducible refine Ext.alloc ?_ _) | (with_reducible refine Ext.drew ?_) | (with_reducible refine Ext.drewN ?_ _) | (with_reducible refine Ext.setCell ?_ ?_ _) | (with_reducible refine Ext.trans ?_ (by assumption)) | go_size))))
    | (refine ⟨wide_depth, hRd.mono ?_⟩; rintro e W3 h3; obtain ⟨r, rfl, H3⟩ := two_ends h3; clear h3))
  all_goals
    gi_wp2
    refine bodyPost_ret (v := .bool r) (by simp [results, Tryd.results72, go_sem]) rfl ?_
    rcases H3.out with ⟨rfl, q1, q2⟩ | ⟨rfl, q1, q2⟩
    · exact .inl ⟨rfl, [⟨a', k', lst⟩], rfl, q1, (KeepC.of_ext hE1.out).trans q2⟩
    · exact .inr ⟨rfl, [⟨a', k', lst⟩], List.prefix_refl _, q1, (KeepC.of_ext hE1.out).trans q2⟩

theorem append_ints (w : World) (ty : TypeId) {ao : Option Addr} {c : Nat} {l : List Nat} (h : ListAt w ao c l) (hl : l.length ≤ 1000) (i b : Nat) (hb : w.cell? ⟨b, 0, none⟩ = some (.int .i64 (i : Int))) :
    ∃ v' w', (Builtin.append_ #[23, 23] ty #[.slice ao l.length l.length, .slice (some ⟨b, 0, none⟩) 1 1]).run Tryd.prog w = .ok v' w' ∧ w'.ownsRow w.heap.size 3 1 v' (l.length + 1) (intVals (intsN (l ++ [i]))) ∧ w.grownBy w' none := by
  obtain ⟨i0, hi, hz0, hz1, hz2⟩ := info_parts (P := Tryd.prog) (e := 3) (z := .int .i64 0) (size := 1) (bytes := 8) (by kernel_rfl)
  have hnew : ∀ j u, ([Value.int .i64 (i : Int)] : List Value)[j]? = some u → w.cell? ((⟨b, 0, none⟩ : Addr).add j) = some u := by
    intro j u hj
    rw [Addr.add_mid, Nat.zero_add]
    match j, hj with
    | 0, hj => simp at hj; subst hj; exact hb
    | _ + 1, hj => simp at hj
  have e : intVals (intsN (l ++ [i])) = intVals (intsN l) ++ [Value.int .i64 (i : Int)] := by simp [intVals, intsN]
  rw [e]
  rcases h with ⟨rfl, rfl, rfl⟩ | ⟨hne, hcl, b1, o1, rfl, hx⟩
  · obtain ⟨v', w', h1, h2, h3, _⟩ := run_append_own (P := Tryd.prog) w w.heap.size 23 ty 3 i0 (.int .i64 0) 1 8 Tryd.underlying23 hi hz0 hz1 hz2 rfl (by decide) (.slice none 0 0) 0 [] (World.ownsRow_nil w _ _ _) ⟨b, 0, none⟩ 1 1 [.int .i64 (i : Int)] rfl hnew (by simp [Value.oneCell']) (by unfold maxLen; omega) (by omega) (Nat.le_refl _)
    exact ⟨v', w', h1, h2, h3⟩
  · obtain ⟨v', w', h1, h2, h3⟩ := run_append_arg_grows (P := Tryd.prog) w 23 ty 3 i0 (.int .i64 0) 1 8 Tryd.underlying23 hi hz0 hz1 hz2 rfl (by decide) ⟨b1, o1, none⟩ l.length l.length (intVals (intsN l)) (by simp [intVals, intsN]) (fun j u hj => by
      have hjl : j < (intsN l).length := by rw [← List.length_map (f := Value.int .i64)]; exact (List.getElem?_eq_some_iff.1 hj).1
      have e := intVals_at hjl
      rw [List.getElem?_toArray, hj] at e
      cases e
      rw [Addr.add_mid]; exact hx j (by rwa [intsN_len] at hjl)) ⟨b, 0, none⟩ 1 1 [.int .i64 (i : Int)] rfl hnew (by omega) (by unfold maxLen; omega) (by omega)
    exact ⟨v', w', h1, h2, h3⟩

theorem list_of_own' {w : World} {base : Nat} {v : Value} {l : List Nat} {i : Nat} (h : w.ownsRow base 3 1 v (l.length + 1) (intVals (intsN (l ++ [i])))) : ∃ g k, v = .slice (some ⟨g, 0, none⟩) (l.length + 1) k ∧ base ≤ g ∧ ListAt w (some ⟨g, 0, none⟩) k (l ++ [i]) := by
  have e : l.length + 1 = (l ++ [i]).length := by simp
  rw [e] at h ⊢
  obtain ⟨g, k, h1, h2, _, h3⟩ := list_of_own h (by simp)
  exact ⟨g, k, h1, h2, h3⟩
theorem asc_snoc {n : Nat} : ∀ {l : List Nat} {s i : Nat}, Globe.asc n s l → (∀ j ∈ l, j < i) → s ≤ i → i < n → Globe.asc n s (l ++ [i])
  | [], _, _, _, _, h, hi => ⟨h, hi, trivial⟩
  | j :: _, _, _, ⟨h1, h2, h3⟩, hj, _, hi => ⟨h1, h2, asc_snoc h3 (fun q hq => hj q (by simp [hq])) (hj j (by simp)) hi⟩
theorem Ext.ofNone {w w' : World} (h : w.grownBy w' none) : Ext w w' := ⟨h.os, h.tape, h.output, h.size, fun k hk => h.block k hk (by simp)⟩

theorem WPost.keep {X : Nat → Prop} {J Jx : List YL → World → Prop} {n m : Nat} {lst : List Nat} {next : Nat} {pre : List YL} {W : World} {e : Ending} {W' : World} (h : WPost X J Jx n m lst next pre W e W') : KeepC X W W' := by
  rcases h with ⟨_, _, _, _, h⟩ | ⟨_, _, _, _, h⟩ <;> exact h
/-- The call of itself, one index farther. -/
theorem walk_next {X : Nat → Prop} {Kb Yb Nb Wb l n k m : Nat} {J Jx : List YL → World → Prop} {B0 : Nat} {V w3 : World} {W : World} {g cap i next : Nat} {lst : List Nat} {pre xs : List YL} (hBW : B0 ≤ W.heap.size) (hXB : ∀ b, X b → b < B0) (hlen : lst.length + (m + 1) = k)
    (ih : ∀ (a : Option Addr) (c : Nat) (lst : List Nat) (next : Nat) (pre : List YL) (W : World), lst.length + m = k → B0 ≤ W.heap.size → (∀ b off, a = some ⟨b, off, none⟩ → ¬ X b) → ListAt W a c lst → Globe.asc n 0 lst → (∀ i ∈ lst, i < next) → next ≤ n → WB X Kb Yb Nb Wb l n k W → J pre W →
      Calls Tryd.prog 72 #[.slice a lst.length c, .int .i64 (next : Int), .pointer (some ⟨Kb, 0, none⟩), .pointer (some ⟨Yb, 0, none⟩), .pointer (some ⟨Nb, 0, none⟩), .pointer (some ⟨Wb, 0, none⟩)] W (WPost X J Jx n m lst next pre W))
    (hl3 : ListAt w3 (some ⟨g, 0, none⟩) cap (lst ++ [i])) (hg : V.heap.size ≤ g) (hWV : W.heap.size ≤ V.heap.size) (ha : Globe.asc n 0 lst) (hlt : ∀ j ∈ lst, j < next) (hi0 : next ≤ i) (hin : i < n) (hB : WB X Kb Yb Nb Wb l n k V) (hE : Ext V w3) (hJA : AbidesFrom B0 J) (hJ : J (pre ++ xs) V) :
    Calls Tryd.prog 72 #[.slice (some ⟨g, 0, none⟩) (lst.length + 1) cap, .int .i64 ((i : Int) + 1), .pointer (some ⟨Kb, 0, none⟩), .pointer (some ⟨Yb, 0, none⟩), .pointer (some ⟨Nb, 0, none⟩), .pointer (some ⟨Wb, 0, none⟩)] w3 (WPost X J Jx n m (lst ++ [i]) (i + 1) (pre ++ xs) w3) := by
  have h := ih (some ⟨g, 0, none⟩) cap (lst ++ [i]) (i + 1) (pre ++ xs) w3 (by rw [List.length_append]; simp; omega) (Nat.le_trans hBW (Nat.le_trans hWV hE.size)) (fun b off e hx => by cases e; have := hXB _ hx; omega) hl3
    (asc_snoc ha (fun j hj => Nat.lt_of_lt_of_le (hlt j hj) hi0) (Nat.zero_le _) hin) (fun j hj => by
      rcases List.mem_append.1 hj with hj | hj
      · have := hlt j hj; omega
      · simp at hj; omega) (by omega) (hB.keep (KeepC.of_ext hE)) (hJA _ _ _ none hJ (Ext.grownNone hE) (fun r e => by cases e))
  rwa [show (lst ++ [i]).length = lst.length + 1 by simp, show ((i + 1 : Nat) : Int) = (i : Int) + 1 by omega] at h

/-- Between two rounds of its loop. -/
def WLoop (X : Nat → Prop) (J : List YL → World → Prop) (n m : Nat) (lst : List Nat) (next : Nat) (pre : List YL) (W : World) (p : Value) (wr : World) : Prop :=
  ∃ (i : Nat) (xs : List YL), next ≤ i ∧ i ≤ n ∧ p = .int .i64 i ∧ Hid (xs.map (fun x => x.2.2) ++ ((List.range (n - m)).drop i).flatMap (fun i => Globe.combs n m (lst ++ [i]) (i + 1)) = Globe.combs n (m + 1) lst next) ∧ Hid (J (pre ++ xs) wr) ∧ KeepC X W wr
set_option maxRecDepth 100000 in
set_option maxHeartbeats 4000000 in
theorem walkS {X : Nat → Prop} {Kb Yb Nb Wb l n k m : Nat} {J Jx : List YL → World → Prop} {B0 : Nat} (hJ : AbidesFrom B0 J) (hXB : ∀ b, X b → b < B0)
    (ih : ∀ (a : Option Addr) (c : Nat) (lst : List Nat) (next : Nat) (pre : List YL) (W : World), lst.length + m = k → B0 ≤ W.heap.size → (∀ b off, a = some ⟨b, off, none⟩ → ¬ X b) → ListAt W a c lst → Globe.asc n 0 lst → (∀ i ∈ lst, i < next) → next ≤ n → WB X Kb Yb Nb Wb l n k W → J pre W →
      Calls Tryd.prog 72 #[.slice a lst.length c, .int .i64 (next : Int), .pointer (some ⟨Kb, 0, none⟩), .pointer (some ⟨Yb, 0, none⟩), .pointer (some ⟨Nb, 0, none⟩), .pointer (some ⟨Wb, 0, none⟩)] W (WPost X J Jx n m lst next pre W))
    (a : Option Addr) (c : Nat) (lst : List Nat) (next : Nat) (pre : List YL) (W : World) (hlen : lst.length + (m + 1) = k) (hkn : k ≤ n) (hn : n ≤ 1000) (hBW : B0 ≤ W.heap.size) (hax : ∀ b off, a = some ⟨b, off, none⟩ → ¬ X b) (hl : ListAt W a c lst) (ha : Globe.asc n 0 lst) (hlt : ∀ i ∈ lst, i < next) (hnn : next ≤ n) (hb : WB X Kb Yb Nb Wb l n k W) (hJ0 : J pre W) :
    Calls Tryd.prog 72 #[.slice a lst.length c, .int .i64 (next : Int), .pointer (some ⟨Kb, 0, none⟩), .pointer (some ⟨Yb, 0, none⟩), .pointer (some ⟨Nb, 0, none⟩), .pointer (some ⟨Wb, 0, none⟩)] W (WPost X J Jx n (m + 1) lst next pre W) := by
  have HB := Lib.hid hb
  obtain ⟨h1, h2, h3, h4, x1, x2, x3, x4⟩ := hb
  have hcl : lst.length ≤ c := by rcases hl with ⟨rfl, _, rfl⟩ | ⟨_, h, _⟩ <;> simp_all
  have hne : ¬ (lst.length : Int) = (k : Int) := by omega
  have i1 : (k : Int) ≤ 1000 := by omega
  have i2 : (n : Int) ≤ 1000 := by omega
  have i3 : (lst.length : Int) ≤ (k : Int) := by omega
  have i4 : (lst.length : Int) ≤ (c : Int) := by omega
  have hlk : lst.length ≤ 1000 := by omega
  have Hlen := Lib.hid hlen; clear hlen
  have Hih := Lib.hid ih; clear ih
  have HJA := Lib.hid hJ; clear hJ
  have HL := Lib.hid hl; clear hl
  have HA := Lib.hid ha; clear ha
  have Hlt := Lib.hid hlt; clear hlt
  have Hax := Lib.hid hax; clear hax
  have HXB := Lib.hid hXB; clear hXB
  go_enter Tryd.func72, Tryd.ntmps72
  go_wp2_with fail
  go_loopw [9] (fun p wr => WLoop X J n m lst next pre W p wr) (fun p _ => n + 1 - (intOf p).toNat)
  case atStart => exact ⟨next, [], Nat.le_refl _, hnn, rfl, by show _ = _; simp [Globe.combs], by show J _ _; simpa using hJ0, KeepC.refl _ _⟩
  case round =>
    clear hJ0 h1 h2 h3 h4
    obtain ⟨i, xs, hi0, hi1, rfl, Hxs, HJ, hk⟩ := hrel
    obtain ⟨h1, h2, h3, h4, -, -, -, -⟩ := HB.out.keep hk
    obtain ⟨V, rfl⟩ : ∃ V, V = wr := ⟨_, rfl⟩
    have l1 := World.block_lt_of_cell? V _ h1
    have l3 := World.block_lt_of_cell? V _ h3
    have l4 := World.block_lt_of_cell? V _ h4
    by_cases hlt : (i : Int) ≤ (n : Int) - ((k : Int) - (lst.length : Int))
    · have k11 : IntKind.i64.wrap ((i : Int) + 1) = (i : Int) + 1 := by rw [IntKind.wrap_i64]; omega
      have K11 := Lib.hid k11; clear k11
      have HLV := Lib.hid (show ListAt ((V.alloc (.cells #[.int .i64 (i : Int)] 3)).drew) a c lst from (HL.out.keep hk Hax.out).ext (Ext.drew (Ext.alloc (Ext.refl _) _)))
      have HBV := Lib.hid (HB.out.keep hk)
      go_wp2_with fail
      -- <<walk
      refine wg_begin [(some 29, [5], []), (some 30, [0], []), (some 31, [0], []), (some 32, [31], [2]), (some 33, [0], []), (some 34, [33], [4]), (some 35, [30, 32, 34], [1, 3, 5]), (some 36, [9], []), (some 37, [36], [7]), (some 38, [35, 37], [6, 8]), (some 39, [9], []), (some 40, [39], [10]), (some 41, [29, 38, 40], [0, 9, 11, 9]), (some 42, [41], [12])] (fun w' => w'.cell? ⟨Wb, 0, none⟩ = some (.func (.func 72) #[] #[.pointer (some ⟨Kb, 0, none⟩), .pointer (some ⟨Yb, 0, none⟩), .pointer (some ⟨Nb, 0, none⟩), .pointer (some ⟨Wb, 0, none⟩)])) (by kernel_rfl) (by kernel_rfl) (by kernel_rfl) (by kernel_rfl) (by intro c d v a w h; cases d <;> first | exact h | (exact nomatch h.1) | (dsimp +zetaDelta only [Exit.then, Exit.inBlock] at h ⊢; exact h)) (h4) (fun ops Q L hL hR hK hHeld => ?_); replace hL := Lib.hid hL; have hW1 := @evalW_tmp; have hW2 := @evalW_const; have hW3 := @evalW_func; have hW4 := @look_cons; have hW5 := @look_nil
      have r5 := wg_read hL.out 5 rfl
      have r0 := wg_read hL.out 0 rfl
      have r9 := wg_read hL.out 9 rfl
      (refine wg_take 0 (v := ?_) hR rfl (by kernel_rfl) (by kernel_rfl) ?_ (by with_reducible assumption) ?_; rotate_left; (focus (intro w hSw; (try dsimp only at hSw); go_simp; (try with_reducible rfl))); (dsimp only [putW]))
      (refine wg_take 1 (v := ?_) hR rfl (by kernel_rfl) (by kernel_rfl) ?_ (by with_reducible assumption) ?_; rotate_left; (focus (intro w hSw; (try dsimp only at hSw); go_simp; (try with_reducible rfl))); (dsimp only [putW]))
      (refine wg_take 2 (v := ?_) hR rfl (by kernel_rfl) (by kernel_rfl) ?_ (by with_reducible assumption) ?_; rotate_left; (focus (intro w hSw; (try dsimp only at hSw); go_simp; (try with_reducible rfl))); (dsimp only [putW]))
      (refine wg_take 3 (v := ?_) hR rfl (by kernel_rfl) (by kernel_rfl) ?_ (by with_reducible assumption) ?_; rotate_left; (focus (intro w hSw; (try dsimp only at hSw); go_simp; (try with_reducible rfl))); (dsimp only [putW]))
      (refine wg_take 4 (v := ?_) hR rfl (by kernel_rfl) (by kernel_rfl) ?_ (by with_reducible assumption) ?_; rotate_left; (focus (intro w hSw; (try dsimp only at hSw); go_simp; (try with_reducible rfl))); (dsimp only [putW]))
      (refine wg_take 5 (v := ?_) hR rfl (by kernel_rfl) (by kernel_rfl) ?_ (by with_reducible assumption) ?_; rotate_left; (focus (intro w hSw; (try dsimp only at hSw); go_simp; (try with_reducible rfl))); (dsimp only [putW]))
      (refine wg_take 6 (v := ?_) hR rfl (by kernel_rfl) (by kernel_rfl) ?_ (by with_reducible assumption) ?_; rotate_left; (focus (intro w hSw; (try dsimp only at hSw); go_simp; (try with_reducible rfl))); (dsimp only [putW]))
      (refine wg_take 7 (v := ?_) hR rfl (by kernel_rfl) (by kernel_rfl) ?_ (by with_reducible assumption) ?_; rotate_left; (focus (intro w hSw; (try dsimp only at hSw); go_simp; (try with_reducible rfl))); (dsimp only [putW]))
      (refine wg_take 10 (v := ?_) hR rfl (by kernel_rfl) (by kernel_rfl) ?_ (by with_reducible assumption) ?_; rotate_left; (focus (intro w hSw; (try dsimp only at hSw); go_simp; (try with_reducible rfl))); (dsimp only [putW]))
      (refine wg_take 11 (v := ?_) hR rfl (by kernel_rfl) (by kernel_rfl) ?_ (by with_reducible assumption) ?_; rotate_left; (focus (intro w hSw; (try dsimp only at hSw); have k0 := K11.out; go_simp; (try with_reducible rfl))); (dsimp only [putW]))
      (refine wg_step 8 hR rfl (by kernel_rfl) (by kernel_rfl) ?_ (by kernel_rfl); refine wg_eff (v := ?_) (w' := ?_) ?_ ?_ ?_; rotate_left; rotate_left; (focus (go_simp; first | done | (with_reducible rfl) | (refine ⟨?_, ?_⟩ <;> with_reducible rfl))); (focus (exact (Ext.cell (show Ext V _ by (repeat' (first | (with_reducible assumption) | (with_reducible exact Ext.refl _) | (with_reducible refine Ext.alloc ?_ _) | (with_reducible refine Ext.drew ?_) | (with_reducible refine Ext.drewN ?_ _) | (with_reducible refine Ext.setCell ?_ ?_ _) | (with_reducible refine Ext.trans ?_ (by assumption)) | go_size))) h4))); intro hHeld; (dsimp only [putW]))
      (refine wg_step 9 hR rfl (by kernel_rfl) (by kernel_rfl) ?_ (by kernel_rfl); (obtain ⟨v', w3, hrun, hown, hg3⟩ := append_ints ((V.alloc (.cells #[.int .i64 (i : Int)] 3)).drew) 23 HLV.out hlk i V.heap.size (by simp [go_sem]); obtain ⟨g, cap, rfl, hgb, hl3⟩ := list_of_own' hown; have hE3 := Lib.hid (Ext.trans (Ext.drew (Ext.alloc (Ext.refl V) _)) (Ext.ofNone hg3)); have hs3 := hE3.out.size; have hgb2 : V.heap.size ≤ g := (by simp at hgb; omega); have Hc := Lib.hid (walk_next hBW HXB.out Hlen.out Hih.out hl3 hgb2 hk.size HA.out Hlt.out hi0 (by omega) HBV.out hE3.out HJA.out HJ.out); refine wg_eff (v := .slice (some ⟨g, 0, none⟩) (lst.length + 1) cap) (w' := w3) ?_ ?_ ?_; (focus (simp [execOp, resolve, invoke, builtin, hW1, hW4, hrun, Result.andThen])); (focus (exact hE3.out.cell h4)); intro hHeld; (dsimp only [putW])))
      (refine wg_step 12 hR rfl (by kernel_rfl) (by kernel_rfl) ?_ (by kernel_rfl); refine wg_call (f := 72) (args := ?_) ?_ ?_; rotate_left; (focus (go_simp; first | done | (with_reducible rfl) | (refine ⟨?_, ?_⟩ <;> with_reducible rfl))); (go_at_call 72; refine Hc.out.mono ?_; rintro e w5 h5; have H5k := Lib.hid h5.keep; obtain ⟨r, rfl, H5⟩ := two_ends h5; have h5c := (HBV.out.keep ((KeepC.of_ext hE3.out).trans H5k.out)).2.2.2.1); refine ⟨_, rfl, h5c, fun hHeld => ?_⟩; (dsimp only [putW]))
      (refine wg_take 13 (v := ?_) hR rfl (by kernel_rfl) (by kernel_rfl) ?_ (by with_reducible assumption) ?_; rotate_left; (focus (intro w hSw; (try dsimp only at hSw); go_simp; (try with_reducible rfl))); (dsimp only [putW]))
      refine wg_fin hR hK [(29, 13), (0, 12), (0, 11), (0, 10), (0, 9), (0, 8), (0, 7), (0, 6), (0, 3), (0, 2), (0, 5), (0, 4), (0, 1), (0, 0)] (by kernel_rfl) (by kernel_rfl) (by dsimp only [mg, gsOf, valAt]) ?_; clear hW1 hW2 hW3 hW4 hW5 hR hK hL
      clear r5
      clear r0
      clear r9
      -- >>
      have hin : i < n - m := by have := Hlen.out; omega
      clear hrun hown hg3 hl3 hgb hgb2 h5
      have hsplit := Hxs.out
      rw [Globe.range_drop hin, List.flatMap_cons] at hsplit
      have Hs := Lib.hid hsplit; clear hsplit Hxs
      have hkW := (KeepC.of_ext (X := X) hE3.out)
      cases r
      · go_wp2_with fail
        go_ret
        rcases H5.out with ⟨q, -⟩ | ⟨-, q, hq, hJx, hk5⟩
        · cases q
        · refine .inr ⟨rfl, xs ++ q, ?_, by rw [← List.append_assoc]; exact hJx, hk.trans (hkW.trans hk5)⟩
          rw [← Hs.out, List.map_append]
          obtain ⟨rr, hr⟩ := hq
          exact ⟨rr ++ ((List.range (n - m)).drop (i + 1)).flatMap (fun i => Globe.combs n m (lst ++ [i]) (i + 1)), by rw [← hr]; simp only [List.append_assoc]⟩
      · go_wp2_with fail
        obtain ⟨ys, hys, hJ5, hk5⟩ : ∃ ys : List YL, ys.map (fun x => x.2.2) = Globe.combs n m (lst ++ [i]) (i + 1) ∧ J (pre ++ xs ++ ys) w5 ∧ KeepC X w3 w5 := by
          rcases H5.out with ⟨-, ys, q1, q2, q3⟩ | ⟨q, -⟩
          · exact ⟨ys, q1, q2, q3⟩
          · cases q
        have Hys := Lib.hid hys; clear hys
        have HJ5 := Lib.hid hJ5; clear hJ5
        go_roundw
        case rel => exact ⟨i + 1, xs ++ ys, by omega, by omega, by go_num, by show _ = _; rw [List.map_append, Hys.out, List.append_assoc]; exact Hs.out, by show J _ _; rw [← List.append_assoc]; exact HJ5.out, hk.trans (hkW.trans hk5)⟩
        case measure => simp [intOf]; omega
    · go_wp2_with fail
      go_ret
      have hin : n - m ≤ i := by have := Hlen.out; omega
      have hall := Hxs.out
      rw [Globe.range_drop_ge hin, List.flatMap_nil, List.append_nil] at hall
      exact .inl ⟨rfl, xs, hall, HJ.out, hk⟩

end Go.Proofs.YtglfoglkdbbmmaaDoor

/- Contracts of package cover: lists; fold over indices. -/
namespace Go.Proofs.YtglfoglkdbbmmaaDoor
open Go.RowKit Go.Shelf

attribute [local go_sem] Oper.semAt_some

theorem walk_c {X : Nat → Prop} {Kb Yb Nb Wb l n k : Nat} {J Jx : List YL → World → Prop} {B0 : Nat} (hJ : AbidesFrom B0 J) (hXB : ∀ b, X b → b < B0)
    (hY : ∀ pre x W1 m, J pre W1 → PhiL n x W1 → YieldAt Fence.wide m Tryd.prog l (encL x) W1 fun e W' => (e = .returned (.bool true) ∧ J (pre ++ [x]) W' ∧ KeepC X W1 W') ∨ (e = .returned (.bool false) ∧ Jx (pre ++ [x]) W' ∧ KeepC X W1 W'))
    (hkn : k ≤ n) (hn : n ≤ 1000) : ∀ (m : Nat) (a : Option Addr) (c : Nat) (lst : List Nat) (next : Nat) (pre : List YL) (W : World), lst.length + m = k → B0 ≤ W.heap.size → (∀ b off, a = some ⟨b, off, none⟩ → ¬ X b) → ListAt W a c lst → Globe.asc n 0 lst → (∀ i ∈ lst, i < next) → next ≤ n → WB X Kb Yb Nb Wb l n k W → J pre W →
      Calls Tryd.prog 72 #[.slice a lst.length c, .int .i64 (next : Int), .pointer (some ⟨Kb, 0, none⟩), .pointer (some ⟨Yb, 0, none⟩), .pointer (some ⟨Nb, 0, none⟩), .pointer (some ⟨Wb, 0, none⟩)] W (WPost X J Jx n m lst next pre W)
  | 0, a, c, lst, next, pre, W, hlen, _, _, hl, ha, _, _, hb, hJ0 => (callsIn_wide (n := 3)).1 (walk0 hJ hY a c lst next 3 pre W hlen (by omega) hl ha hb hJ0)
  | m + 1, a, c, lst, next, pre, W, hlen, hBW, hax, hl, ha, hlt, hnn, hb, hJ0 => walkS hJ hXB (walk_c hJ hXB hY hkn hn m) a c lst next pre W hlen hkn hn hBW hax hl ha hlt hnn hb hJ0

set_option maxHeartbeats 1000000 in
theorem lists1_seq {X : Nat → Prop} {Kb Nb n k : Nat} (w : World) (hXB : ∀ b, X b → b < w.heap.size) (hkn : k ≤ n) (hn : n ≤ 1000) (hK : w.cell? ⟨Kb, 0, none⟩ = some (.int .i64 (k : Int))) (hN : w.cell? ⟨Nb, 0, none⟩ = some (.int .i64 (n : Int))) (xK : ¬ X Kb) (xN : ¬ X Nb) :
    SeqM Tryd.prog 71 #[.pointer (some ⟨Kb, 0, none⟩), .pointer (some ⟨Nb, 0, none⟩)] encL (PhiL n) (KeepC X) (fun xs => xs.map (fun x => x.2.2) = Globe.combs n k [] 0) (fun pre => pre.map (fun x => x.2.2) <+: Globe.combs n k [] 0) w := by
  intro l J Jx W hW hJ hJx hY hJ0 d
  refine callsIn_wide.2 ?_
  have hK1 := Ext.cell hW hK
  have hN1 := Ext.cell hW hN
  have hs := Ext.size hW
  have lK := World.block_lt_of_cell? W _ hK1
  have lN := World.block_lt_of_cell? W _ hN1
  have HY := Lib.hid hY; clear hY
  have HJ := Lib.hid hJ; clear hJ
  have HJ0 := Lib.hid hJ0; clear hJ0
  have HXB := Lib.hid (show ∀ b, X b → b < W.heap.size from fun b h => by have := hXB b h; omega)
  clear hXB hJx hK hN hW
  show Calls Tryd.prog 71 #[.func (.yield l) #[] #[], .pointer (some ⟨Kb, 0, none⟩), .pointer (some ⟨Nb, 0, none⟩)] W _
  go_enter Tryd.func71, Tryd.ntmps71
  go_wp2_with fail
  have hE2 : Ext W ((W.alloc (.cells #[.func (.yield l) #[] #[]] 88)).alloc (.cells #[.func (.func 72) #[] #[.pointer (some ⟨Kb, 0, none⟩), .pointer (some ⟨W.heap.size, 0, none⟩), .pointer (some ⟨Nb, 0, none⟩), .pointer (some ⟨W.heap.size + 1, 0, none⟩)]] 89)) := Ext.alloc (Ext.alloc (Ext.refl W) _) _
  refine (walk_c (Yb := W.heap.size) (Wb := W.heap.size + 1) HJ.out HXB.out HY.out hkn hn k none 0 [] 0 [] _ (by simp) hE2.size (fun b off e => by cases e) (.inl ⟨rfl, rfl, rfl⟩) trivial (fun i hi => by cases hi) (Nat.zero_le _)
    ⟨hE2.cell hK1, by simp [go_sem], hE2.cell hN1, by simp [go_sem], xK, fun h => by have := HXB.out _ h; omega, xN, fun h => by have := HXB.out _ h; omega⟩ (HJ.out _ _ _ none HJ0.out (Ext.grownNone hE2) (fun r e => by cases e))).mono ?_
  rintro e w5 h5
  obtain ⟨r, rfl, H5⟩ := two_ends h5
  clear h5
  go_wp2_with fail
  go_end0
  refine ⟨⟨_, rfl⟩, ?_⟩
  rcases H5.out with ⟨-, xs, q1, q2, -⟩ | ⟨-, q, q1, q2, -⟩
  · exact .inl ⟨xs, q1, by simpa using q2⟩
  · exact .inr ⟨q, q1, by simpa using q2⟩

theorem lists_c (n k : Int) (w : World) : Calls Tryd.prog 52 #[.int .i64 n, .int .i64 k] w fun e w' => e = .returned (.func (.func 71) #[] #[.pointer (some ⟨w.heap.size + 1, 0, none⟩), .pointer (some ⟨w.heap.size, 0, none⟩)]) ∧ (w.alloc (.cells #[.int .i64 n] 3)).alloc (.cells #[.int .i64 k] 3) = w' := by
  go_enter Tryd.func52, Tryd.ntmps52
  go_wp2
  go_ret
  exact ⟨rfl, rfl⟩

set_option maxHeartbeats 2000000 in
theorem Few1_v {w1 w2 : World} {a : Option Addr} {n : Nat} {ss : List (List Int × List Int)} {b o i Lb : Nat} (k c : Nat) {l : List Int} {s : List Int × List Int} (w : World) (hl : VA w1 b o l) (e1 : Ext w1 w) (h : StripsAt w2 a n ss) (e2 : Ext w2 w) (hok : Globe.stripsOk ss = true) (hL : w.cell? ⟨Lb, 0, none⟩ = some (.slice a n c)) (hs : ss[i]? = some s) :
    Calls Tryd.prog 54 #[.agg #[.slice (some ⟨b, o, none⟩) 24 k], .int .i64 (i : Int), .pointer (some ⟨Lb, 0, none⟩)] w (RetF w (Globe.lessL l s.1)) := by
  have H := Lib.hid (h.ext e2)
  have HL := Lib.hid (hl.ext e1)
  clear hl e1 e2
  have hi : i < n := by rw [← h.1]; exact (List.getElem?_eq_some_iff.1 hs).1
  have hn := h.2.1
  clear h
  obtain ⟨b3, off, s', rfl, hs', hst⟩ := H.out.at hi
  rw [hs] at hs'; cases hs'
  obtain ⟨q1, q2, q3⟩ := okS_at hok hs
  obtain ⟨B1, o1, c1, B2, o2, cc2, d1, -, g1, -⟩ := hst.v q1 q2
  have G1 := Lib.hid g1
  have ld1 := World.block_lt_of_cell? w _ d1
  have lL := World.block_lt_of_cell? w _ hL
  have i0 : (0 : Int) ≤ (i : Int) := by omega
  have i1 : (i : Int) < (n : Int) := by omega
  clear g1 hst q1 q2 q3 hok hs
  go_enter Tryd.func54, Tryd.ntmps54
  go_wp2_with fail
  refine wp_name (fun V => Ext w V ∧ V.cell? ⟨w.heap.size, 0, none⟩ = some (.slice (some ⟨b, o, none⟩) 24 k) ∧ BoxAt V (w.heap.size + 1) 0 (.slice none 0 0)) ⟨by (repeat' (first | (with_reducible assumption) | (with_reducible exact Ext.refl _) | (with_reducible refine Ext.alloc ?_ _) | (with_reducible refine Ext.drew ?_) | (with_reducible refine Ext.drewN ?_ _) | (with_reducible refine Ext.setCell ?_ ?_ _) | (with_reducible refine Ext.trans ?_ (by assumption)) | go_size)), by simp [go_sem], by simp [go_sem], by simp [go_sem]⟩ ?_
  rintro V ⟨hE, c3, c5, f5⟩
  have l3 := World.block_lt_of_cell? V _ c3
  have l5 := World.block_lt_of_cell? V _ c5
  have d1' := hE.cell d1
  have hL' := hE.cell hL
  have ld1' := World.block_lt_of_cell? V _ d1'
  have lL' := World.block_lt_of_cell? V _ hL'
  -- <<few1
  refine wg_begin [(some 6, [3], []), (some 7, [2], []), (some 8, [1], []), (some 9, [7, 8], [1, 2]), (some 10, [9], [3]), (some 11, [10], [4]), (some 12, [6, 11], [0, 5]), (none, [5, 12], [6, 6, 0, 1, 2, 3, 4, 5, 6])] (fun w' => w'.cell? ⟨w.heap.size, 0, none⟩ = some (.slice (some ⟨b, o, none⟩) 24 k) ∧ w'.cell? ⟨Lb, 0, none⟩ = some (.slice (some ⟨b3, off, none⟩) n c) ∧ w'.cell? ⟨b3, off + i * 2, none⟩ = some (.slice (some ⟨B1, o1, none⟩) 24 c1)) (by kernel_rfl) (by kernel_rfl) (by kernel_rfl) (by kernel_rfl) (by intro c d v a w h; cases d <;> first | exact h | (exact nomatch h.1) | (dsimp +zetaDelta only [Exit.then, Exit.inBlock] at h ⊢; exact h)) (⟨c3, hL', d1'⟩) (fun ops Q L hL hR hK hHeld => ?_); replace hL := Lib.hid hL; have hW1 := @evalW_tmp; have hW2 := @evalW_const; have hW3 := @evalW_func; have hW4 := @look_cons; have hW5 := @look_nil
  have r3 := wg_read hL.out 3 rfl
  have r2 := wg_read hL.out 2 rfl
  have r1 := wg_read hL.out 1 rfl
  have r5 := wg_read hL.out 5 rfl
  (refine wg_take 0 (v := ?_) hR rfl (by kernel_rfl) (by kernel_rfl) ?_ (by with_reducible assumption) ?_; rotate_left; (focus (intro w hSw; (try dsimp only at hSw); go_simp; (try with_reducible rfl))); (dsimp only [putW]))
  (refine wg_take 1 (v := ?_) hR rfl (by kernel_rfl) (by kernel_rfl) ?_ (by with_reducible assumption) ?_; rotate_left; (focus (intro w hSw; (try dsimp only at hSw); go_simp; (try with_reducible rfl))); (dsimp only [putW]))
  (refine wg_take 2 (v := ?_) hR rfl (by kernel_rfl) (by kernel_rfl) ?_ (by with_reducible assumption) ?_; rotate_left; (focus (intro w hSw; (try dsimp only at hSw); go_simp; (try with_reducible rfl))); (dsimp only [putW]))
  (refine wg_take 3 (v := ?_) hR rfl (by kernel_rfl) (by kernel_rfl) ?_ (by with_reducible assumption) ?_; rotate_left; (focus (intro w hSw; (try dsimp only at hSw); go_simp; (try with_reducible rfl))); (dsimp only [putW]))
  (refine wg_take 4 (v := ?_) hR rfl (by kernel_rfl) (by kernel_rfl) ?_ (by with_reducible assumption) ?_; rotate_left; (focus (intro w hSw; (try dsimp only at hSw); go_simp; (try with_reducible rfl))); (dsimp only [putW]))
  (refine wg_take 5 (v := ?_) hR rfl (by kernel_rfl) (by kernel_rfl) ?_ (by with_reducible assumption) ?_; rotate_left; (focus (intro w hSw; (try dsimp only at hSw); go_simp; (try with_reducible rfl))); (dsimp only [putW]))
  (refine wg_step 6 hR rfl (by kernel_rfl) (by kernel_rfl) ?_ (by kernel_rfl); refine wg_call (f := 42) (args := ?_) ?_ ?_; rotate_left; (focus (go_simp; first | done | (with_reducible rfl) | (refine ⟨?_, ?_⟩ <;> with_reducible rfl))); (go_at_call 42; refine (less_v k c1 _ HL.out (hE.trans (Ext.drew (Ext.refl V))) G1.out (hE.trans (Ext.drew (Ext.refl V)))).mono ?_; rintro e w5 ⟨B, kk, rfl, hB, hv, hb⟩; have HV := Lib.hid hv; clear hv; obtain ⟨c5', f5'⟩ := BoxAt.ext (Ext.trans (Ext.drew (Ext.refl V)) hb) ⟨c5, f5⟩); refine ⟨_, rfl, ⟨hb.cell hHeld.1, hb.cell hHeld.2.1, hb.cell hHeld.2.2⟩, fun hHeld => ?_⟩; (dsimp only [putW]))
  (refine wg_step 7 hR rfl (by kernel_rfl) (by kernel_rfl) ?_ (by kernel_rfl); refine wg_skp (w' := ?_) ?_ ?_ ?_; rotate_left; (focus (go_simp; first | done | (with_reducible rfl))); (focus (exact ⟨by simp [go_sem, hHeld.1], by simp [go_sem, hHeld.2.1], by simp [go_sem, hHeld.2.2]⟩)); intro hHeld; (dsimp only [putW]))
  refine wg_fin hR hK [(6, 6), (0, 5), (0, 4), (0, 3), (0, 2), (0, 1), (0, 0)] (by kernel_rfl) (by kernel_rfl) (by dsimp only [mg, gsOf, valAt]) ?_; clear hW1 hW2 hW3 hW4 hW5 hR hK hL
  clear r3
  clear r2
  clear r1
  clear r5
  -- >>
  go_wp2_with fail
  refine bodyPost_ret (v := .agg #[.slice (some ⟨B, 0, none⟩) 24 kk]) (by simp [results, Tryd.results54, go_sem, c5']) rfl ⟨B, kk, rfl, ?_, ?_, ?_⟩
  · have := hE.size; simp at hB; omega
  · refine VA.other HV.out (p := ⟨w.heap.size + 1, 0, none⟩) ?_ _
    have := hE.size; simp at hB
    show w.heap.size + 1 ≠ B; omega
  · exact Ext.setCell (hE.trans (Ext.trans (Ext.drew (Ext.refl V)) hb)) (p := ⟨w.heap.size + 1, 0, none⟩) (by show _ ≤ w.heap.size + 1; omega) _

set_option maxHeartbeats 2000000 in
theorem foldN_v {w1 w2 w3 : World} {a a0 : Option Addr} {n : Nat} {ss : List (List Int × List Int)} {lst : List Nat} {b o Lb : Nat} (c0 k c : Nat) {l : List Int} (w : World) (hI : IntsAt w3 a0 (intsN lst)) (e3 : Ext w3 w) (hlst : ∀ i ∈ lst, i < n) (hlen : lst.length ≤ 1000) (hl : VA w1 b o l) (e1 : Ext w1 w) (h : StripsAt w2 a n ss) (e2 : Ext w2 w) (hok : Globe.stripsOk ss = true) (hL : w.cell? ⟨Lb, 0, none⟩ = some (.slice a n c)) :
    Calls Tryd.prog 53 #[.slice a0 lst.length c0, .agg #[.slice (some ⟨b, o, none⟩) 24 k], .func (.func 54) #[] #[.pointer (some ⟨Lb, 0, none⟩)]] w (RetO w b (Globe.leftL l (lst.map (Globe.sureAt (ss.map fun s => s.1))))) := by
  have H := Lib.hid (h.ext e2)
  have HL := Lib.hid (hl.ext e1)
  have HI := Lib.hid (hI.ext e3)
  have hbl := HL.out.lt
  have lL := World.block_lt_of_cell? w _ hL
  clear h hl e1 e2 hI e3
  have Hlst := Lib.hid hlst; clear hlst
  have Hok := Lib.hid hok; clear hok
  go_enter Tryd.func53, Tryd.ntmps53
  go_wp2_with fail
  go_loopw [11] (fun p wr => ∃ i : Nat, i ≤ lst.length ∧ p = .int .i64 i ∧ Ext w wr ∧ BoxAt wr (w.heap.size + 1) 0 (.slice none 0 0) ∧ ∃ B o' k', BoxAt wr w.heap.size 0 (.slice (some ⟨B, o', none⟩) 24 k') ∧ VA wr B o' (Globe.leftL l ((lst.map (Globe.sureAt (ss.map fun s => s.1))).take i)) ∧ B ≠ w.heap.size ∧ B ≠ w.heap.size + 1 ∧ (B = b ∨ w.heap.size ≤ B)) (fun p _ => lst.length - (intOf p).toNat)
  case atStart => exact ⟨0, by omega, rfl, by (repeat' (first | (with_reducible assumption) | (with_reducible exact Ext.refl _) | (with_reducible refine Ext.alloc ?_ _) | (with_reducible refine Ext.drew ?_) | (with_reducible refine Ext.drewN ?_ _) | (with_reducible refine Ext.setCell ?_ ?_ _) | (with_reducible refine Ext.trans ?_ (by assumption)) | go_size)), ⟨by simp [go_sem], by simp [go_sem]⟩, b, o, k, ⟨by simp [go_sem], by simp [go_sem]⟩, HL.out.ext (by (repeat' (first | (with_reducible assumption) | (with_reducible exact Ext.refl _) | (with_reducible refine Ext.alloc ?_ _) | (with_reducible refine Ext.drew ?_) | (with_reducible refine Ext.drewN ?_ _) | (with_reducible refine Ext.setCell ?_ ?_ _) | (with_reducible refine Ext.trans ?_ (by assumption)) | go_size))), by omega, by omega, .inl rfl⟩
  case round =>
    obtain ⟨i, hi, rfl, hE, hR, B, o', k', hA, hv, hB1, hB2, hB3⟩ := hrel
    obtain ⟨cA, fA⟩ := hA
    obtain ⟨cR, fR⟩ := hR
    have lA := World.block_lt_of_cell? wr _ cA
    have lR := World.block_lt_of_cell? wr _ cR
    by_cases hlt : i < lst.length
    · obtain ⟨b3, off, rfl, hx⟩ : ∃ b3 off, a0 = some ⟨b3, off, none⟩ ∧ ∀ i, i < (intsN lst).length → w.cell? ⟨b3, off + i, none⟩ = some (.int .i64 (Globe.nth (intsN lst) i)) := by
        rcases HI.out with h | h
        · exfalso
          have : (intsN lst).length = 0 := by rw [h]; rfl
          rw [intsN_len] at this; omega
        · exact h
      obtain ⟨q, hq⟩ : ∃ q, lst[i]? = some q := ⟨_, List.getElem?_eq_getElem hlt⟩
      have hqn := Hlst.out q (List.mem_of_getElem? hq)
      have d1 := hE.cell (hx i (by rw [intsN_len]; exact hlt))
      have hnq : Globe.nth (intsN lst) i = (q : Int) := by simp [Globe.nth, intsN, hq]
      rw [hnq] at d1
      have hLr := hE.cell hL
      obtain ⟨s, hs⟩ : ∃ s, ss[q]? = some s := ⟨_, List.getElem?_eq_getElem (by rw [H.out.1]; exact hqn)⟩
      have hsn : Globe.leftL l ((lst.map (Globe.sureAt (ss.map fun s => s.1))).take (i + 1)) = Globe.lessL (Globe.leftL l ((lst.map (Globe.sureAt (ss.map fun s => s.1))).take i)) s.1 := by
        rw [take_snoc' (x := s.1) (by rw [List.getElem?_map, hq]; simp [Globe.sureAt, hs]), Globe.left_snoc]
      have Hsn := Lib.hid hsn
      have Hs := Lib.hid hs
      clear hsn hs hx hnq hq
      have ld1 := World.block_lt_of_cell? wr _ d1
      have i0 : (0 : Int) ≤ (i : Int) := by omega
      have i1 : (i : Int) < (lst.length : Int) := by omega
      go_wp2_with (go_at_call 54; refine (Few1_v _ c _ hv (by (repeat' (first | (with_reducible assumption) | (with_reducible exact Ext.refl _) | (with_reducible refine Ext.alloc ?_ _) | (with_reducible refine Ext.drew ?_) | (with_reducible refine Ext.drewN ?_ _) | (with_reducible refine Ext.setCell ?_ ?_ _) | (with_reducible refine Ext.trans ?_ (by assumption)) | go_size))) (H.out.ext hE) (by (repeat' (first | (with_reducible assumption) | (with_reducible exact Ext.refl _) | (with_reducible refine Ext.alloc ?_ _) | (with_reducible refine Ext.drew ?_) | (with_reducible refine Ext.drewN ?_ _) | (with_reducible refine Ext.setCell ?_ ?_ _) | (with_reducible refine Ext.trans ?_ (by assumption)) | go_size))) Hok.out hLr Hs.out).mono ?_; rintro e w1 ⟨B', k3, rfl, hB', hv', hb⟩; have hc := hb.cellE; have hf := hb.frozenE; have hz := hb.size; have ha := alloc_keeps w1; (try simp only [World.size_alloc] at hc hf hz); (try simp only [World.size_setCell] at hc hf hz); (try simp only [World.size_drew] at hc hf hz))
      go_roundw
      case rel => exact ⟨i + 1, by omega, by go_num, by (repeat' (first | (with_reducible assumption) | (with_reducible exact Ext.refl _) | (with_reducible refine Ext.alloc ?_ _) | (with_reducible refine Ext.drew ?_) | (with_reducible refine Ext.drewN ?_ _) | (with_reducible refine Ext.setCell ?_ ?_ _) | (with_reducible refine Ext.trans ?_ (by assumption)) | go_size)), BoxAt.other (BoxAt.ext (by (repeat' (first | (with_reducible assumption) | (with_reducible exact Ext.refl _) | (with_reducible refine Ext.alloc ?_ _) | (with_reducible refine Ext.drew ?_) | (with_reducible refine Ext.drewN ?_ _) | (with_reducible refine Ext.setCell ?_ ?_ _) | (with_reducible refine Ext.trans ?_ (by assumption)) | go_size))) ⟨cR, fR⟩) (by show w.heap.size ≠ w.heap.size + 1; omega) _, B', 0, k3, BoxAt.set (BoxAt.ext (by (repeat' (first | (with_reducible assumption) | (with_reducible exact Ext.refl _) | (with_reducible refine Ext.alloc ?_ _) | (with_reducible refine Ext.drew ?_) | (with_reducible refine Ext.drewN ?_ _) | (with_reducible refine Ext.setCell ?_ ?_ _) | (with_reducible refine Ext.trans ?_ (by assumption)) | go_size))) ⟨cA, fA⟩) _, by rw [Hsn.out]; exact VA.other (hv'.ext (by (repeat' (first | (with_reducible assumption) | (with_reducible exact Ext.refl _) | (with_reducible refine Ext.alloc ?_ _) | (with_reducible refine Ext.drew ?_) | (with_reducible refine Ext.drewN ?_ _) | (with_reducible refine Ext.setCell ?_ ?_ _) | (with_reducible refine Ext.trans ?_ (by assumption)) | go_size)))) (by show w.heap.size ≠ B'; (try simp at hB'); omega) _, by (try simp at hB'); omega, by (try simp at hB'); omega, .inr (by (try simp at hB'); omega)⟩
      case measure => simp [intOf]; omega
    · obtain rfl : i = lst.length := by omega
      go_wp2_with fail
      refine bodyPost_ret (v := .agg #[.slice (some ⟨B, o', none⟩) 24 k']) (by simp [results, Tryd.results53, go_sem, cR]) rfl ⟨B, o', k', rfl, ?_, hB3, by (repeat' (first | (with_reducible assumption) | (with_reducible exact Ext.refl _) | (with_reducible refine Ext.alloc ?_ _) | (with_reducible refine Ext.drew ?_) | (with_reducible refine Ext.drewN ?_ _) | (with_reducible refine Ext.setCell ?_ ?_ _) | (with_reducible refine Ext.trans ?_ (by assumption)) | go_size))⟩
      rw [List.take_of_length_le (by rw [List.length_map]; exact Nat.le_refl _)] at hv
      exact VA.other hv (by show w.heap.size + 1 ≠ B; omega) _

end Go.Proofs.YtglfoglkdbbmmaaDoor

/- Contracts of package globe: TrailingZeros, cells, Count. -/
namespace Go.Proofs.YtglfoglkdbbmmaaDoor
open Go.RowKit Go.Shelf

attribute [local go_sem] Oper.semAt_some

/-- The table of package math/bits, as its initialiser lays it. -/
def Tab (w : World) : Prop := 1 < w.heap.size ∧ ∀ j, j < 64 → w.cell? ⟨1, j, none⟩ = some (.int .u8 (Lib.deBruijn64tab.getD j 0))
theorem Tab.ext {w w' : World} (h : Tab w) (hE : Ext w w') : Tab w' := ⟨Nat.lt_of_lt_of_le h.1 hE.size, fun j hj => hE.cell (h.2 j hj)⟩

theorem tz_neg (x : Nat) (h0 : x ≠ 0) (hx : x < 18446744073709551616) : IntKind.u64.wrap (-(x : Int)) = ((18446744073709551616 - x : Nat) : Int) := by rw [IntKind.wrap_u64]; omega
theorem tz_key (x a : Nat) (h0 : x ≠ 0) (hx : x < 18446744073709551616) (hlow : x &&& (18446744073709551616 - x) = a) :
    IntKind.u64.wrap (bits BinOp.and IntKind.u64 (x : Int) (IntKind.u64.wrap (-(x : Int))) * 285870213051353865) / 288230376151711744 = ((a * 285870213051353865 % 18446744073709551616 / 288230376151711744 : Nat) : Int) := by
  rw [tz_neg x h0 hx, bits_and_u64_nat x _ hx (by omega), hlow, IntKind.wrap_u64]
  omega

set_option maxHeartbeats 1000000 in
theorem tz64_core (x k idx : Nat) (w : World) (hx0 : ((x : Int) == 0) = false)
    (key : IntKind.u64.wrap (bits BinOp.and IntKind.u64 (x : Int) (IntKind.u64.wrap (-(x : Int))) * 285870213051353865) / 288230376151711744 = (idx : Int))
    (hi : idx < 64) (hk : k < 64) (hcell : w.cell? ⟨1, idx, none⟩ = some (.int .u8 k)) :
    Calls Tryd.prog 80 #[.int .u64 x] w fun e w' => e = .returned (.int .i64 k) ∧ w = w' := by
  go_enter Tryd.func80, Tryd.ntmps80
  go_wp2_with (simp only [key])
  go_ret
  exact ⟨rfl, rfl⟩

theorem TrailingZeros64_c (R : Nat) (w : World) (h0 : R ≠ 0) (h : R < 281474976710656) (hT : Tab w) :
    Calls Tryd.prog 80 #[.int .u64 (R : Int)] w fun e w' => e = .returned (.int .i64 (Lib.ctz 64 R : Nat)) ∧ w = w' := by
  obtain ⟨hlow, hk⟩ := Lib.lowest_bit 64 R h0 (by omega)
  obtain ⟨hi, htab⟩ := Lib.deBruijn64_at _ hk
  have hcell := hT.2 _ hi
  rw [htab] at hcell
  exact tz64_core R _ _ w (by simp; omega) (tz_key R _ h0 (by omega) hlow) hi hk hcell

theorem TrailingZeros_c (R : Nat) (w : World) (h0 : R ≠ 0) (h : R < 281474976710656) (hT : Tab w) :
    Calls Tryd.prog 75 #[.int .u64 (R : Int)] w fun e w' => e = .returned (.int .i64 (Lib.ctz 64 R : Nat)) ∧ w = w' := by
  go_enter Tryd.func75, Tryd.ntmps75
  go_wp2_with (go_at_call 80; refine (TrailingZeros64_c _ _ h0 h hT).mono ?_; rintro e w' ⟨rfl, rfl⟩)
  go_ret
  exact ⟨rfl, rfl⟩

end Go.Proofs.YtglfoglkdbbmmaaDoor

/- Contracts of package globe: the iterator over the cells of a valid area. -/
namespace Go.Proofs.YtglfoglkdbbmmaaDoor
open Go.RowKit Go.Shelf

attribute [local go_sem] Oper.semAt_some

theorem Tab.keep {n₀ : Nat} {X : Nat → Prop} {w w' : World} (h : Tab w) (hn : 1 < n₀) (hx : ¬ X 1) (hb : KeepX n₀ X w w') : Tab w' :=
  ⟨Nat.lt_of_lt_of_le h.1 hb.size, fun j hj => (hb.cell hn hx).trans (h.2 j hj)⟩

theorem cells_c (a : Option Addr) (k c : Nat) (w : World) : Calls Tryd.prog 58 #[.agg #[.slice a k c]] w fun e w' => e = .returned (.func (.func 74) #[] #[.pointer (some ⟨w.heap.size, 0, none⟩)]) ∧ w.alloc (.cells #[.slice a k c] 25) = w' := by
  go_enter Tryd.func58, Tryd.ntmps58
  go_wp2
  go_ret
  exact ⟨rfl, rfl⟩

/-- What a cell is handed on as. -/
def encCell (p : Nat × Nat) : Array Value := #[.agg #[.int .i64 (p.1 : Int), .int .i64 (p.2 : Int)]]

theorem and_pred_i64 (R : Nat) (h0 : 0 < R) (h : R < 281474976710656) : bits .and .i64 (R : Int) ((R : Int) - 1) = ((R &&& (R - 1) : Nat) : Int) := by
  rw [show ((R : Int) - 1) = ((R - 1 : Nat) : Int) by omega]
  exact (bits_nat .i64 62 (by decide) (fun n h1 h2 => by rw [IntKind.wrap_i64]; omega) R (R - 1) (by omega) (by omega)).1

set_option maxHeartbeats 2000000 in
theorem cells_stops (n : Nat) (Bn b off c n₀ : Nat) (X : Nat → Prop) (l : List Int) (w : World) (hl : Globe.validL l = true) (hB : Bn < n₀) (hBX : ¬ X Bn) (hb : b < n₀) (hbX : ¬ X b) (hg : 1 < n₀) (hgX : ¬ X 1) (hn : n₀ ≤ w.heap.size)
    (hBn : w.cell? ⟨Bn, 0, none⟩ = some (.slice (some ⟨b, off, none⟩) 24 c)) (hr : ∀ i, i < 24 → w.cell? ⟨b, off + i, none⟩ = some (.int .i64 (Globe.nth l i))) (hT : Tab w) :
    SeqStopsK Fence.wide n Tryd.prog 74 #[.pointer (some ⟨Bn, 0, none⟩)] encCell (KeepX n₀ X) (fun xs => xs = Globe.cellsTo l 24) (fun pre => pre <+: Globe.cellsTo l 24) (Globe.cellsTo l 24).length w := by
  intro ll J Jx W hW hJ hJx hY hJ0
  obtain ⟨hlen, hrow⟩ := Globe.validL_t.1 hl
  have hW' : KeepX n₀ X w W := KeepX.of_below (hW.mono hn)
  refine callsIn_of_wp Tryd.func74 rfl trivial ?_ rfl
  simp only [Tryd.ntmps74, List.size_toArray, List.length_cons, List.length_nil, Nat.reduceAdd, Nat.reduceSub, Array.replicate_succ, Array.replicate_zero, List.push_toArray, List.append_toArray, List.nil_append, List.cons_append]
  have hBW : W.cell? ⟨Bn, 0, none⟩ = some (.slice (some ⟨b, off, none⟩) 24 c) := (hW'.cell hB hBX).trans hBn
  have Hr : Hid (∀ i, i < 24 → W.cell? ⟨b, off + i, none⟩ = some (.int .i64 (Globe.nth l i))) := fun i hi => (hW'.cell hb hbX).trans (hr i hi)
  have HT := Lib.hid (hT.keep hg hgX hW')
  have HY := Lib.hid hY
  have Hrow := Lib.hid hrow
  clear hBn hr hT hY hrow hl
  gi_wp2
  gi_loopw [9] (fun p wr => ∃ y : Nat, y ≤ 24 ∧ p = .int .i64 y ∧ J (Globe.cellsTo l y) wr ∧ KeepX n₀ X W wr) (fun p _ => 24 - (intOf p).toNat)
  case atStart => exact ⟨0, by omega, rfl, hJ0, KeepX.refl _ _ _⟩
  case round =>
    obtain ⟨y, hy, rfl, hJy, hbw⟩ := hrel
    clear hJ0 hBW
    by_cases hlt : y < 24
    · have hc : wr.cell? ⟨b, off + y, none⟩ = some (.int .i64 (Globe.nth l y)) := (hbw.cell hb hbX).trans (Hr.out y hlt)
      obtain ⟨hR0, hR1⟩ := Hrow.out _ (Globe.nth_mem (l := l) (i := y) (by omega))
      have hy0 : (0 : Int) ≤ (y : Int) := by omega
      have hdy : decide ((y : Int) < 24) = true := by simp; omega
      gi_wp2
      obtain ⟨R0, hR0e⟩ : ∃ R0 : Nat, Globe.nth l y = (R0 : Int) := ⟨(Globe.nth l y).toNat, by omega⟩
      have HR0 := Lib.hid hR0e
      rw [hR0e]
      clear hR0e hc
      obtain ⟨wo, rfl⟩ : ∃ wo : World, wo = wr := ⟨_, rfl⟩
      gi_loopw [4] (fun p wr => ∃ (R : Nat) (done : List (Nat × Nat)), R < 281474976710656 ∧ p = .int .i64 R ∧ Hid (done ++ (Globe.bitsN R).map (fun x => (x, y)) = Globe.rowCells l y) ∧ J (Globe.cellsTo l y ++ done) wr ∧ KeepX n₀ X W wr) (fun p _ => (intOf p).toNat)
      case atStart => exact ⟨R0, [], by have := HR0.out; omega, rfl, by show _ = _; rw [Globe.rowCells, HR0.out]; rfl, by simpa using hJy, hbw⟩
      case round =>
        obtain ⟨R, done, hR, rfl, Hd, hJd, hbd⟩ := hrel
        by_cases hz : R = 0
        · subst hz
          gi_wp2
          go_roundw
          case rel => exact ⟨y + 1, by omega, by go_num, by rw [Globe.cellsTo_succ, ← Hd.out]; simpa [Globe.bitsN_zero] using hJd, hbd⟩
          case measure => simp [intOf]; omega
        · have hz0 : ((R : Int) != 0) = true := by simp; omega
          have hTr := HT.out.keep hg hgX hbd
          have hst := Globe.bitsN_step R hz hR
          have hd := Hd.out
          rw [hst, List.map_cons] at hd
          obtain ⟨hm1, hm2⟩ := Globe.cells_mid (by omega) hd
          obtain ⟨fn, tmps, assign, body, hyy, hRd⟩ := HY.out (Globe.cellsTo l y ++ done) (Lib.ctz 64 R, y) wr hJd hm1
          dsimp only [encCell] at hyy
          have Hd2 := Lib.hid hd; clear hd hm1 hst
          have Hm2 := Lib.hid hm2; clear hm2
          have hand := and_pred_i64 R (by omega) hR
          have hR2 := Globe.and_pred_lt R hR
          have hR3 := Globe.and_pred_less R hz
          gi_wp2_with (refine ⟨trivial, wide_depth, ?_⟩; gi_at_call 75; refine (callsIn_wide.2 (TrailingZeros_c R _ hz hR hTr)).mono ?_; rintro e w' ⟨rfl, rfl⟩)
          refine ⟨wide_depth, hRd.mono ?_⟩
          rintro e W3 (⟨rfl, hJ3, hk3⟩ | ⟨rfl, hJx3⟩)
          · gi_wp2
            go_roundw
            case rel => exact ⟨R &&& (R - 1), done ++ [(Lib.ctz 64 R, y)], hR2, rfl, by show _ = _; rw [List.append_assoc]; exact Hd2.out, by rw [← List.append_assoc]; exact hJ3, hbd.trans hk3⟩
            case measure => simp [intOf]; omega
          · gi_wp2
            refine bodyPost_ret (results_none rfl _ _ _) rfl ?_
            exact ⟨⟨_, rfl⟩, .inr ⟨_, Hm2.out, hJx3⟩⟩
    · obtain rfl : y = 24 := by omega
      gi_wp2
      go_end0
      exact ⟨⟨_, rfl⟩, by first | exact .inl hJy | exact .inl ⟨_, rfl, hJy⟩⟩

end Go.Proofs.YtglfoglkdbbmmaaDoor

/- Contracts of package globe: Count. -/
namespace Go.Proofs.YtglfoglkdbbmmaaDoor
open Go.RowKit Go.Shelf

attribute [local go_sem] Oper.semAt_some

theorem Count_no (a : Option Addr) (l : List Int) (c : Nat) (w : World) (h : IntsAt w a l) (hl : l.length ≤ 140737488355328) (hv : Globe.validL l = false) :
    Calls Tryd.prog 29 #[.agg #[.slice a l.length c]] w fun e w' => e = .returned (.int .i64 0) ∧ Ext w w' := by
  have H := Lib.hid h; clear h
  go_enter Tryd.func29, Tryd.ntmps29
  go_wp2_with (go_at_call 38; refine (Valid_c _ _ _ _ (H.out.ext (by (repeat' (first | (with_reducible assumption) | (with_reducible exact Ext.refl _) | (with_reducible refine Ext.alloc ?_ _) | (with_reducible refine Ext.drew ?_) | (with_reducible refine Ext.drewN ?_ _) | (with_reducible refine Ext.setCell ?_ ?_ _) | (with_reducible refine Ext.trans ?_ (by assumption)) | go_size)))) hl).mono ?_; rintro e w1 ⟨rfl, hb⟩; have hc := hb.cellE; have hf := hb.frozenE; have hz := hb.size; have ha := alloc_keeps w1; (try simp only [World.size_alloc] at hc hf hz); (try simp only [World.size_setCell] at hc hf hz); (try simp only [World.size_drew] at hc hf hz))
  go_ret
  exact ⟨rfl, by (repeat' (first | (with_reducible assumption) | (with_reducible exact Ext.refl _) | (with_reducible refine Ext.alloc ?_ _) | (with_reducible refine Ext.drew ?_) | (with_reducible refine Ext.drewN ?_ _) | (with_reducible refine Ext.setCell ?_ ?_ _) | (with_reducible refine Ext.trans ?_ (by assumption)) | go_size))⟩

set_option maxHeartbeats 2000000 in
theorem Count_yes (b off c : Nat) (l : List Int) (w : World) (h : ∀ i, i < l.length → w.cell? ⟨b, off + i, none⟩ = some (.int .i64 (Globe.nth l i))) (hv : Globe.validL l = true) (hT : Tab w) :
    Calls Tryd.prog 29 #[.agg #[.slice (some ⟨b, off, none⟩) l.length c]] w fun e w' => e = .returned (.int .i64 (Globe.cellsTo l 24).length) ∧ Ext w w' := by
  have hl24 := (Globe.validL_t.1 hv).1
  have H : Hid (IntsAt w (some ⟨b, off, none⟩) l) := .inr ⟨b, off, rfl, h⟩
  have H2 := Lib.hid h; clear h
  have Hl := Lib.hid hl24
  refine (callsIn_wide (n := 3)).1 ?_
  refine callsIn_of_wp_marks Tryd.func29 rfl trivial ?_ rfl
  simp only [Tryd.ntmps29, List.size_toArray, List.length_cons, List.length_nil, Nat.reduceAdd, Nat.reduceSub, Array.replicate_succ, Array.replicate_zero, List.push_toArray, List.append_toArray, List.nil_append, List.cons_append]
  refine wpIn_wide.2 ?_
  have hl : l.length ≤ 140737488355328 := by omega
  clear hl24
  go_wp2_with (first | (go_at_call 38; refine (Valid_c _ _ _ _ (H.out.ext (by (repeat' (first | (with_reducible assumption) | (with_reducible exact Ext.refl _) | (with_reducible refine Ext.alloc ?_ _) | (with_reducible refine Ext.drew ?_) | (with_reducible refine Ext.drewN ?_ _) | (with_reducible refine Ext.setCell ?_ ?_ _) | (with_reducible refine Ext.trans ?_ (by assumption)) | go_size)))) hl).mono ?_; rintro e w1 ⟨rfl, hb⟩; have hc := hb.cellE; have hf := hb.frozenE; have hz := hb.size; have ha := alloc_keeps w1; (try simp only [World.size_alloc] at hc hf hz); (try simp only [World.size_setCell] at hc hf hz); (try simp only [World.size_drew] at hc hf hz)) | (go_at_call 58; refine (cells_c _ _ _ _).mono ?_; rintro e w' ⟨rfl, rfl⟩))
  obtain ⟨W0, hW0⟩ : ∃ W0, W0 = w1.alloc (.cells #[.slice (some ⟨b, off, none⟩) l.length c] 25) := ⟨_, rfl⟩
  have hzB : w1.heap.size < W0.heap.size := by rw [hW0]; simp
  have hE1 : Ext w1 W0 := by rw [hW0]; (repeat' (first | (with_reducible assumption) | (with_reducible exact Ext.refl _) | (with_reducible refine Ext.alloc ?_ _) | (with_reducible refine Ext.drew ?_) | (with_reducible refine Ext.drewN ?_ _) | (with_reducible refine Ext.setCell ?_ ?_ _) | (with_reducible refine Ext.trans ?_ (by assumption)) | go_size))
  have hEw : Ext w w1 := by (repeat' (first | (with_reducible assumption) | (with_reducible exact Ext.refl _) | (with_reducible refine Ext.alloc ?_ _) | (with_reducible refine Ext.drew ?_) | (with_reducible refine Ext.drewN ?_ _) | (with_reducible refine Ext.setCell ?_ ?_ _) | (with_reducible refine Ext.trans ?_ (by assumption)) | go_size))
  have hE0 : Ext w W0 := hEw.trans hE1
  have c3 : w1.cell? ⟨w.heap.size + 1, 0, none⟩ = some (.int .i64 0) := hb.cell (by simp [go_sem])
  have f3 : W0.frozen? ⟨w.heap.size + 1, 0, none⟩ = false := hE1.free c3 (hb.free (v := .int .i64 0) (by simp [go_sem]) (by simp [go_sem]))
  replace c3 := hE1.cell c3
  have cB : W0.cell? ⟨w1.heap.size, 0, none⟩ = some (.slice (some ⟨b, off, none⟩) 24 c) := by rw [hW0, ← Hl.out]; simp [go_sem]
  have hr : ∀ i, i < 24 → W0.cell? ⟨b, off + i, none⟩ = some (.int .i64 (Globe.nth l i)) := fun i hi => hE0.cell (H2.out i (by rw [Hl.out]; exact hi))
  have hbs : b < w.heap.size := World.block_lt_of_cell? w _ (H2.out 0 (by rw [Hl.out]; decide))
  have hgs := hT.1
  have hT0 := hT.ext hE0
  rw [← hW0]
  clear hW0 hc hf hb
  refine wpIn_wide (n := 3).1 ?_
  refine wpIn_rangeFunc_ownF (F := Fence.wide) rfl (by omega) (gf := 74) (lb := #[.pointer (some ⟨w1.heap.size, 0, none⟩)]) rfl trivial (enters_of Tryd.func74 (by kernel_rfl) rfl)
    (cells_stops _ w1.heap.size b off c W0.heap.size (fun k => k = w.heap.size + 1) l W0 hv hzB (by omega) (by omega) (by omega) (by omega) (by omega) (Nat.le_refl _) cB hr hT0) KeepX.trans (KeepX.putObj (Nat.le_refl _)) (Below.refl _ _) (fun _ => rfl)
    (fun pre W => (W.cell? ⟨w.heap.size + 1, 0, none⟩ = some (.int .i64 (pre.length : Int)) ∧ W.frozen? ⟨w.heap.size + 1, 0, none⟩ = false) ∧ Ext w W)
    (fun _ _ _ => False)
    (OwnFrom.and (Own.from (fun s A B row hs hg hr => ⟨cell_kept hs.1 hg hr, (frozen_kept hs.1 hg hr).trans hs.2⟩) _) (ownFrom_below (Nat.le_refl _) (by omega)))
    (fun _ _ _ _ _ hs _ _ => hs) ⟨⟨c3, f3⟩, hE0⟩
    (fun p => { tmps := #[.agg #[.slice (some ⟨b, off, none⟩) l.length c], .pointer (some ⟨w.heap.size, 0, none⟩), .int .i64 0, .pointer (some ⟨w.heap.size + 1, 0, none⟩), .agg #[.slice (some ⟨b, off, none⟩) l.length c], .bool true, .agg #[.slice (some ⟨b, off, none⟩) l.length c], .func (.func 74) #[] #[.pointer (some ⟨w1.heap.size, 0, none⟩)], .agg #[.int .i64 (p.1 : Int), .int .i64 (p.2 : Int)], undef, undef, undef], defers := [] }) ?assign ?body ?done ?stop
  case assign =>
    intro ll p W K hK
    dsimp only [encCell]
    gi_wp2
    simpa using hK
  case body =>
    rintro ll pre p W ⟨⟨hA, hF⟩, hE⟩ hlen
    have hcl := Globe.cellsTo_len l 24
    gi_wp2
    refine ⟨by (repeat' (first | (with_reducible refine KeepsOthers.trans ?_ (KeepsOthers.setCell _ _ _)) | (with_reducible refine KeepsOthers.trans ?_ (KeepsOthers.drew _)) | (with_reducible exact KeepsOthers.refl _) | (refine Ext.others ?_; (repeat' (first | (with_reducible assumption) | (with_reducible exact Ext.refl _) | (with_reducible refine Ext.alloc ?_ _) | (with_reducible refine Ext.drew ?_) | (with_reducible refine Ext.drewN ?_ _) | (with_reducible refine Ext.setCell ?_ ?_ _) | (with_reducible refine Ext.trans ?_ (by assumption)) | go_size)); done))), KeepX.setCell (X := fun k => k = w.heap.size + 1) W (p := ⟨w.heap.size + 1, 0, none⟩) rfl _, ⟨?_, ?_⟩, by (repeat' (first | (with_reducible assumption) | (with_reducible exact Ext.refl _) | (with_reducible refine Ext.alloc ?_ _) | (with_reducible refine Ext.drew ?_) | (with_reducible refine Ext.drewN ?_ _) | (with_reducible refine Ext.setCell ?_ ?_ _) | (with_reducible refine Ext.trans ?_ (by assumption)) | go_size))⟩
    · simp [go_sem, hA]
    · simp [go_sem, hF]
  case done =>
    rintro D xs W hD rfl ⟨⟨hA, hF⟩, hE⟩ hK
    go_wp2
    refine ⟨by simp, .inl ⟨_, _, rfl, run_takeDeferred hK, ?_⟩⟩
    exact ⟨_, results_tmp rfl _ _ _, rfl, Ext.shut hE (by omega) hK⟩
  case stop =>
    rintro D c pre W _ _ h _
    exact h.elim

end Go.Proofs.YtglfoglkdbbmmaaDoor

/- Contracts of package globe: Count. -/
namespace Go.Proofs.YtglfoglkdbbmmaaDoor
open Go.RowKit

/-- How many cells. -/
theorem Count_c {w0 : World} {a : Option Addr} {l : List Int} {n : Nat} (c : Nat) {v : Bool} (w : World) (h : AA w0 a l n v) (hE : Ext w0 w) (hT : Tab w) :
    Calls Tryd.prog 29 #[.agg #[.slice a n c]] w fun e w' => e = .returned (.int .i64 (Globe.countL l : Nat)) ∧ Ext w w' := by
  replace h := h.ext hE
  obtain ⟨h1, rfl, h3, h4⟩ := h
  unfold Globe.countL Globe.cellsL
  rw [h4]
  cases v
  · exact Count_no a l c w h1 h3 h4
  · obtain ⟨b, o, rfl, hr⟩ := h1.rows (Globe.len_of_valid h4)
    have := Globe.len_of_valid h4
    exact Count_yes b o c l w (fun i hi => hr i (by omega)) h4 hT
theorem Count_v {w0 : World} {b o : Nat} (c : Nat) {l : List Int} (w : World) (h : VA w0 b o l) (hE : Ext w0 w) (hT : Tab w) :
    Calls Tryd.prog 29 #[.agg #[.slice (some ⟨b, o, none⟩) 24 c]] w fun e w' => e = .returned (.int .i64 ((Globe.cellsTo l 24).length : Nat)) ∧ Ext w w' := by
  have := Count_c c w h.aa hE hT
  unfold Globe.countL Globe.cellsL at this
  rwa [h.2] at this

theorem Count_r {w0 : World} {b o : Nat} (c : Nat) {l : List Int} {n : Nat} (w : World) (h : VA w0 b o l) (hE : Ext w0 w) (hT : Tab w) (hn : (Globe.cellsTo l 24).length = n) :
    Calls Tryd.prog 29 #[.agg #[.slice (some ⟨b, o, none⟩) 24 c]] w fun e w' => e = .returned (.int .i64 (n : Int)) ∧ Ext w w' := hn ▸ Count_v c w h hE hT

end Go.Proofs.YtglfoglkdbbmmaaDoor
