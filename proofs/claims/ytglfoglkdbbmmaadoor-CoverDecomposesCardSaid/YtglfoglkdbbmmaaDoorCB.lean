/- Contracts of package cover: Valid, fold over strips, Uncovered. -/
import Derived.Test.YtglfoglkdbbmmaaDoorCA
namespace Go.Proofs.YtglfoglkdbbmmaaDoor
open Go.RowKit

/-- The first strip that is not valid. -/
def badS (ss : List (List Int × List Int)) : Int := match ss.findIdx? (fun s => !Globe.stripOk s) with | some i => (i : Int) | none => -1
theorem badS_all {ss : List (List Int × List Int)} (h : ∀ (i : Nat) s, ss[i]? = some s → Globe.stripOk s = true) : badS ss = -1 := by
  unfold badS
  rw [List.findIdx?_eq_none_iff.2]
  intro s hs
  obtain ⟨i, hi⟩ := List.getElem?_of_mem hs
  simp [h i s hi]
theorem badS_first {ss : List (List Int × List Int)} {k : Nat} {s : List Int × List Int} (hk : ss[k]? = some s) (hs : Globe.stripOk s = false) (h : ∀ i, i < k → ∀ s, ss[i]? = some s → Globe.stripOk s = true) : badS ss = (k : Int) := by
  unfold badS
  have hl : k < ss.length := by
    rcases Nat.lt_or_ge k ss.length with h1 | h1
    · exact h1
    · rw [List.getElem?_eq_none h1] at hk; cases hk
  rw [List.getElem?_eq_getElem hl] at hk
  cases hk
  rw [(List.findIdx?_eq_some_iff_getElem (xs := ss) (p := fun s => !Globe.stripOk s) (i := k)).2 ⟨hl, by simp [hs], fun j hj => by simp [h j hj _ (List.getElem?_eq_getElem (by omega))]⟩]
theorem badS_no {ss : List (List Int × List Int)} (h : ss.all Globe.stripOk = false) : 0 ≤ badS ss := by
  unfold badS
  cases hq : ss.findIdx? (fun s => !Globe.stripOk s) with
  | some i => simp
  | none =>
    rw [List.findIdx?_eq_none_iff] at hq
    rw [List.all_eq_false] at h
    obtain ⟨s, hs, h⟩ := h
    have := hq s hs
    simp at this; exact absurd this h
theorem badS_yes {ss : List (List Int × List Int)} (h : ss.all Globe.stripOk = true) : badS ss = -1 :=
  badS_all fun _ s hs => List.all_eq_true.1 h s (List.mem_of_getElem? hs)

set_option maxHeartbeats 1000000 in
theorem IndexFuncS_c {w0 : World} {a : Option Addr} {n : Nat} {ss : List (List Int × List Int)} (c : Nat) (w : World) (h : StripsAt w0 a n ss) (hE0 : Ext w0 w) :
    Calls Tryd.prog 69 #[.slice a n c, .func (.func 48) #[] #[]] w fun e w' => e = .returned (.int .i64 (badS ss)) ∧ Ext w w' := by
  have H := Lib.hid (h.ext hE0)
  clear h hE0
  have hn := H.out.2.1
  go_enter Tryd.func69, Tryd.ntmps69
  go_wp2_with fail
  go_loopw [5, 8] (fun _ i wr => ∃ k : Nat, k ≤ n ∧ i = .int .i64 k ∧ Hid (∀ j, j < k → ∀ s, ss[j]? = some s → Globe.stripOk s = true) ∧ Ext w wr) (fun _ i _ => n - (intOf i).toNat)
  case atStart => exact ⟨0, by omega, rfl, fun j hj => by omega, Ext.refl _⟩
  case round =>
    obtain ⟨k, hk, rfl, Hp, hE⟩ := hrel
    by_cases hlt : k < n
    · obtain ⟨b, off, s, rfl, hs, a1, n1, c1, v1, a2, n2, c2, v2, h1, g1, h2, g2⟩ := H.out.at hlt
      have hsp : (s.1, s.2) = s := rfl
      replace h1 := hE.cell h1; replace h2 := hE.cell h2
      have k0 : (0 : Int) ≤ (k : Int) := by omega
      have k1 : (k : Int) < (n : Int) := by omega
      have Hs := Lib.hid hs; clear hs
      cases hq : Globe.stripOk s
      all_goals
        have Hq := Lib.hid hq; clear hq
        go_wp2_with (go_at_call 48; refine (ValidS1_t _ _ _ g1 (hE.trans (by (repeat' (first | (with_reducible assumption) | (with_reducible exact Ext.refl _) | (with_reducible refine Ext.alloc ?_ _) | (with_reducible refine Ext.drew ?_) | (with_reducible refine Ext.drewN ?_ _) | (with_reducible refine Ext.setCell ?_ ?_ _) | (with_reducible refine Ext.trans ?_ (by assumption)) | go_size)))) g2 (hE.trans (by (repeat' (first | (with_reducible assumption) | (with_reducible exact Ext.refl _) | (with_reducible refine Ext.alloc ?_ _) | (with_reducible refine Ext.drew ?_) | (with_reducible refine Ext.drewN ?_ _) | (with_reducible refine Ext.setCell ?_ ?_ _) | (with_reducible refine Ext.trans ?_ (by assumption)) | go_size))))).mono ?_; rintro e w1 ⟨rfl, hb⟩; rw [hsp, Hq.out])
      · go_ret
        exact ⟨ret_int (badS_first Hs.out Hq.out Hp.out).symm, hE.trans hb⟩
      · go_roundw
        case rel => exact ⟨k + 1, by omega, by go_num, fun j hj s' hs' => by
          rcases Nat.lt_or_ge j k with h | h
          · exact Hp.out j h s' hs'
          · rw [show j = k by omega, Hs.out] at hs'; cases hs'; exact Hq.out, hE.trans hb⟩
        case measure => simp [intOf]; omega
    · obtain rfl : k = n := by omega
      go_wp2_with fail
      go_ret
      exact ⟨ret_int (badS_all fun i s hs => Hp.out i (by
        rw [← H.out.1]
        rcases Nat.lt_or_ge i ss.length with h | h
        · exact h
        · rw [List.getElem?_eq_none h] at hs; cases hs) s hs).symm, hE⟩

theorem ContainsFuncS_c {w0 : World} {a : Option Addr} {n : Nat} {ss : List (List Int × List Int)} (c : Nat) (w : World) (h : StripsAt w0 a n ss) (hE0 : Ext w0 w) :
    Calls Tryd.prog 49 #[.slice a n c, .func (.func 48) #[] #[]] w fun e w' => e = .returned (.bool (!ss.all Globe.stripOk)) ∧ Ext w w' := by
  have H := Lib.hid h; clear h
  cases hq : ss.all Globe.stripOk
  · have h1 := badS_no hq
    go_enter Tryd.func49, Tryd.ntmps49
    go_wp2_with (go_at_call 69; refine (IndexFuncS_c _ _ H.out hE0).mono ?_; rintro e w1 ⟨rfl, hb⟩)
    go_ret
    exact ⟨rfl, hb⟩
  · have h1 := badS_yes hq
    go_enter Tryd.func49, Tryd.ntmps49
    go_wp2_with (go_at_call 69; refine (IndexFuncS_c _ _ H.out hE0).mono ?_; rintro e w1 ⟨rfl, hb⟩)
    go_ret
    exact ⟨rfl, hb⟩

theorem ValidS_c {w0 : World} {a : Option Addr} {n : Nat} {ss : List (List Int × List Int)} (c : Nat) (w : World) (h : StripsAt w0 a n ss) (hE0 : Ext w0 w) :
    Calls Tryd.prog 19 #[.slice a n c] w fun e w' => e = .returned (.bool (Globe.stripsOk ss)) ∧ Ext w w' := by
  have hn := h.1
  have hm := h.2.1
  have H := Lib.hid h; clear h
  by_cases h24 : n ≤ 24
  · have hq : Globe.stripsOk ss = ss.all Globe.stripOk := by simp [Globe.stripsOk, hn, h24]
    have Hq := Lib.hid hq; clear hq
    have hd : (n : Int) ≤ 24 := by omega
    clear hn
    go_enter Tryd.func19, Tryd.ntmps19
    go_wp2_with (go_at_call 49; refine (ContainsFuncS_c _ _ H.out hE0).mono ?_; rintro e w1 ⟨rfl, hb⟩)
    go_ret
    exact ⟨ret_bool (by rw [Hq.out]), hb⟩
  · have hq : Globe.stripsOk ss = false := by simp [Globe.stripsOk, hn, h24]
    have Hq := Lib.hid hq; clear hq
    have hd : ¬ (n : Int) ≤ 24 := by omega
    clear hn
    go_enter Tryd.func19, Tryd.ntmps19
    go_wp2_with fail
    go_ret
    exact ⟨ret_bool (by rw [Hq.out]), Ext.refl _⟩
theorem ValidS_r {w0 : World} {a : Option Addr} {n : Nat} {ss : List (List Int × List Int)} {r : Bool} (c : Nat) (w : World) (h : StripsAt w0 a n ss) (hE0 : Ext w0 w) (hr : Globe.stripsOk ss = r) :
    Calls Tryd.prog 19 #[.slice a n c] w fun e w' => e = .returned (.bool r) ∧ Ext w w' := hr ▸ ValidS_c c w h hE0

theorem BoxAt.set {w : World} {b o : Nat} {u : Value} (h : BoxAt w b o u) (v : Value) : BoxAt (w.setCell ⟨b, o, none⟩ v) b o v := by
  obtain ⟨h1, h2⟩ := h
  exact ⟨by simp [go_sem, h1], by simp [go_sem, h2]⟩
/-- What strips leave, where they are valid. -/
theorem okS_at {ss : List (List Int × List Int)} (hv : Globe.stripsOk ss = true) {i : Nat} {s : List Int × List Int} (hs : ss[i]? = some s) : Globe.validL s.1 = true ∧ Globe.validL s.2 = true ∧ Globe.containsB s.2 s.1 = true :=
  Globe.stripOk_v ((Globe.stripsOk_t.1 hv).2 s (List.mem_of_getElem? hs))
theorem StripAt.v {w : World} {b i : Nat} {s : List Int × List Int} (h : StripAt w b i s) (h1 : Globe.validL s.1 = true) (h2 : Globe.validL s.2 = true) :
    ∃ B1 o1 c1 B2 o2 c2, w.cell? ⟨b, i, none⟩ = some (.slice (some ⟨B1, o1, none⟩) 24 c1) ∧ w.cell? ⟨b, i + 1, none⟩ = some (.slice (some ⟨B2, o2, none⟩) 24 c2) ∧ VA w B1 o1 s.1 ∧ VA w B2 o2 s.2 := by
  obtain ⟨a1, n1, c1, v1, a2, n2, c2, v2, q1, g1, q2, g2⟩ := h
  obtain rfl : v1 = true := g1.2.2.2.symm.trans h1
  obtain rfl : v2 = true := g2.2.2.2.symm.trans h2
  obtain ⟨B1, o1, rfl, rfl, r1⟩ := g1.va
  obtain ⟨B2, o2, rfl, rfl, r2⟩ := g2.va
  exact ⟨B1, o1, c1, B2, o2, c2, q1, q2, r1, r2⟩
theorem take_snoc' {α : Type} {l : List α} {i : Nat} {x : α} (h : l[i]? = some x) : l.take (i + 1) = l.take i ++ [x] := by
  rw [List.take_add_one, h]; rfl

set_option maxHeartbeats 1000000 in
theorem Unc1_v {w1 w2 w3 : World} {b o B1 o1 B2 o2 : Nat} (k c1 c2 : Nat) {l l1 l2 : List Int} (w : World) (h : VA w1 b o l) (e1 : Ext w1 w) (h1 : VA w2 B1 o1 l1) (e2 : Ext w2 w) (h2 : VA w3 B2 o2 l2) (e3 : Ext w3 w) :
    Calls Tryd.prog 41 #[.agg #[.slice (some ⟨b, o, none⟩) 24 k], .agg #[.slice (some ⟨B1, o1, none⟩) 24 c1, .slice (some ⟨B2, o2, none⟩) 24 c2]] w (RetF w (Globe.lessL l l2)) := by
  have H := Lib.hid (h.ext e1)
  have H1 := Lib.hid (h1.ext e2)
  have H2 := Lib.hid (h2.ext e3)
  clear h h1 h2 e1 e2 e3
  go_enter Tryd.func41, Tryd.ntmps41
  go_wp2_with (go_at_call 42; refine (less_v _ _ _ H.out (by (repeat' (first | (with_reducible assumption) | (with_reducible exact Ext.refl _) | (with_reducible refine Ext.alloc ?_ _) | (with_reducible refine Ext.drew ?_) | (with_reducible refine Ext.drewN ?_ _) | (with_reducible refine Ext.setCell ?_ ?_ _) | (with_reducible refine Ext.trans ?_ (by assumption)) | go_size))) H2.out (by (repeat' (first | (with_reducible assumption) | (with_reducible exact Ext.refl _) | (with_reducible refine Ext.alloc ?_ _) | (with_reducible refine Ext.drew ?_) | (with_reducible refine Ext.drewN ?_ _) | (with_reducible refine Ext.setCell ?_ ?_ _) | (with_reducible refine Ext.trans ?_ (by assumption)) | go_size)))).mono ?_; rintro e w1 ⟨B, k, rfl, hB, hv, hb⟩; have hc := hb.cellE; have hf := hb.frozenE; have hz := hb.size; have ha := alloc_keeps w1; (try simp only [World.size_alloc] at hc hf hz); (try simp only [World.size_setCell] at hc hf hz); (try simp only [World.size_drew] at hc hf hz))
  have hB2 : w.heap.size + 1 + 1 < B := by simp at hB; omega
  refine bodyPost_ret (v := .agg #[.slice (some ⟨B, 0, none⟩) 24 k]) (by simp [results, Tryd.results41, go_sem, hc, ha]) rfl ⟨B, k, rfl, by omega, ?_, by (repeat' (first | (with_reducible assumption) | (with_reducible exact Ext.refl _) | (with_reducible refine Ext.alloc ?_ _) | (with_reducible refine Ext.drew ?_) | (with_reducible refine Ext.drewN ?_ _) | (with_reducible refine Ext.setCell ?_ ?_ _) | (with_reducible refine Ext.trans ?_ (by assumption)) | go_size))⟩
  refine VA.other (hv.ext (by (repeat' (first | (with_reducible assumption) | (with_reducible exact Ext.refl _) | (with_reducible refine Ext.alloc ?_ _) | (with_reducible refine Ext.drew ?_) | (with_reducible refine Ext.drewN ?_ _) | (with_reducible refine Ext.setCell ?_ ?_ _) | (with_reducible refine Ext.trans ?_ (by assumption)) | go_size)))) (by show w.heap.size + 1 + 1 ≠ B; omega) _

set_option maxHeartbeats 2000000 in
theorem foldU1_v {w1 w2 : World} {a : Option Addr} {n : Nat} {ss : List (List Int × List Int)} {b o : Nat} (c k : Nat) {l : List Int} (w : World) (h : StripsAt w1 a n ss) (e1 : Ext w1 w) (hok : Globe.stripsOk ss = true) (hl : VA w2 b o l) (e2 : Ext w2 w) :
    Calls Tryd.prog 39 #[.slice a n c, .agg #[.slice (some ⟨b, o, none⟩) 24 k], .func (.func 41) #[] #[]] w (RetO w b (Globe.leftL l (ss.map fun s => s.2))) := by
  have H := Lib.hid (h.ext e1)
  have HL := Lib.hid (hl.ext e2)
  have hbl := HL.out.lt
  have hn := H.out.2.1
  have hn1 := H.out.1
  have Hok := Lib.hid hok
  clear h hl e1 e2 hok
  have Hn1 := Lib.hid hn1; clear hn1
  go_enter Tryd.func39, Tryd.ntmps39
  go_wp2_with fail
  go_loopw [11] (fun p wr => ∃ i : Nat, i ≤ n ∧ p = .int .i64 i ∧ Ext w wr ∧ BoxAt wr (w.heap.size + 1) 0 (.slice none 0 0) ∧ ∃ B o' k', BoxAt wr w.heap.size 0 (.slice (some ⟨B, o', none⟩) 24 k') ∧ VA wr B o' (Globe.leftL l ((ss.map fun s => s.2).take i)) ∧ B ≠ w.heap.size ∧ B ≠ w.heap.size + 1 ∧ (B = b ∨ w.heap.size ≤ B)) (fun p _ => n - (intOf p).toNat)
  case atStart => exact ⟨0, by omega, rfl, by (repeat' (first | (with_reducible assumption) | (with_reducible exact Ext.refl _) | (with_reducible refine Ext.alloc ?_ _) | (with_reducible refine Ext.drew ?_) | (with_reducible refine Ext.drewN ?_ _) | (with_reducible refine Ext.setCell ?_ ?_ _) | (with_reducible refine Ext.trans ?_ (by assumption)) | go_size)), ⟨by simp [go_sem], by simp [go_sem]⟩, b, o, k, ⟨by simp [go_sem], by simp [go_sem]⟩, HL.out.ext (by (repeat' (first | (with_reducible assumption) | (with_reducible exact Ext.refl _) | (with_reducible refine Ext.alloc ?_ _) | (with_reducible refine Ext.drew ?_) | (with_reducible refine Ext.drewN ?_ _) | (with_reducible refine Ext.setCell ?_ ?_ _) | (with_reducible refine Ext.trans ?_ (by assumption)) | go_size))), by omega, by omega, .inl rfl⟩
  case round =>
    obtain ⟨i, hi, rfl, hE, hR, B, o', k', hA, hv, hB1, hB2, hB3⟩ := hrel
    obtain ⟨cA, fA⟩ := hA
    obtain ⟨cR, fR⟩ := hR
    have lA := World.block_lt_of_cell? wr _ cA
    have lR := World.block_lt_of_cell? wr _ cR
    by_cases hlt : i < n
    · obtain ⟨b3, off, s, rfl, hs, hst⟩ := H.out.at hlt
      obtain ⟨q1, q2, q3⟩ := okS_at Hok.out hs
      obtain ⟨B1, o1, c1, B2, o2, c2, d1, d2, g1, g2⟩ := hst.v q1 q2
      replace d1 := hE.cell d1; replace d2 := hE.cell d2
      have ld1 := World.block_lt_of_cell? wr _ d1
      have i0 : (0 : Int) ≤ (i : Int) := by omega
      have i1 : (i : Int) < (n : Int) := by omega
      have hsn : Globe.leftL l ((ss.map fun s => s.2).take (i + 1)) = Globe.lessL (Globe.leftL l ((ss.map fun s => s.2).take i)) s.2 := by
        rw [take_snoc' (x := s.2) (by rw [List.getElem?_map, hs]; rfl), Globe.left_snoc]
      have Hsn := Lib.hid hsn; clear hsn hs hst q1 q2 q3
      go_wp2_with (go_at_call 41; refine (Unc1_v _ _ _ _ hv (by (repeat' (first | (with_reducible assumption) | (with_reducible exact Ext.refl _) | (with_reducible refine Ext.alloc ?_ _) | (with_reducible refine Ext.drew ?_) | (with_reducible refine Ext.drewN ?_ _) | (with_reducible refine Ext.setCell ?_ ?_ _) | (with_reducible refine Ext.trans ?_ (by assumption)) | go_size))) (g1.ext hE) (by (repeat' (first | (with_reducible assumption) | (with_reducible exact Ext.refl _) | (with_reducible refine Ext.alloc ?_ _) | (with_reducible refine Ext.drew ?_) | (with_reducible refine Ext.drewN ?_ _) | (with_reducible refine Ext.setCell ?_ ?_ _) | (with_reducible refine Ext.trans ?_ (by assumption)) | go_size))) (g2.ext hE) (by (repeat' (first | (with_reducible assumption) | (with_reducible exact Ext.refl _) | (with_reducible refine Ext.alloc ?_ _) | (with_reducible refine Ext.drew ?_) | (with_reducible refine Ext.drewN ?_ _) | (with_reducible refine Ext.setCell ?_ ?_ _) | (with_reducible refine Ext.trans ?_ (by assumption)) | go_size)))).mono ?_; rintro e w1 ⟨B', k3, rfl, hB', hv', hb⟩; have hc := hb.cellE; have hf := hb.frozenE; have hz := hb.size; have ha := alloc_keeps w1; (try simp only [World.size_alloc] at hc hf hz); (try simp only [World.size_setCell] at hc hf hz); (try simp only [World.size_drew] at hc hf hz))
      go_roundw
      case rel => exact ⟨i + 1, by omega, by go_num, by (repeat' (first | (with_reducible assumption) | (with_reducible exact Ext.refl _) | (with_reducible refine Ext.alloc ?_ _) | (with_reducible refine Ext.drew ?_) | (with_reducible refine Ext.drewN ?_ _) | (with_reducible refine Ext.setCell ?_ ?_ _) | (with_reducible refine Ext.trans ?_ (by assumption)) | go_size)), BoxAt.other (BoxAt.ext (by (repeat' (first | (with_reducible assumption) | (with_reducible exact Ext.refl _) | (with_reducible refine Ext.alloc ?_ _) | (with_reducible refine Ext.drew ?_) | (with_reducible refine Ext.drewN ?_ _) | (with_reducible refine Ext.setCell ?_ ?_ _) | (with_reducible refine Ext.trans ?_ (by assumption)) | go_size))) ⟨cR, fR⟩) (by show w.heap.size ≠ w.heap.size + 1; omega) _, B', 0, k3, BoxAt.set (BoxAt.ext (by (repeat' (first | (with_reducible assumption) | (with_reducible exact Ext.refl _) | (with_reducible refine Ext.alloc ?_ _) | (with_reducible refine Ext.drew ?_) | (with_reducible refine Ext.drewN ?_ _) | (with_reducible refine Ext.setCell ?_ ?_ _) | (with_reducible refine Ext.trans ?_ (by assumption)) | go_size))) ⟨cA, fA⟩) _, by rw [Hsn.out]; exact VA.other (hv'.ext (by (repeat' (first | (with_reducible assumption) | (with_reducible exact Ext.refl _) | (with_reducible refine Ext.alloc ?_ _) | (with_reducible refine Ext.drew ?_) | (with_reducible refine Ext.drewN ?_ _) | (with_reducible refine Ext.setCell ?_ ?_ _) | (with_reducible refine Ext.trans ?_ (by assumption)) | go_size)))) (by show w.heap.size ≠ B'; (try simp at hB'); omega) _, by (try simp at hB'); omega, by (try simp at hB'); omega, .inr (by (try simp at hB'); omega)⟩
      case measure => simp [intOf]; omega
    · obtain rfl : i = n := by omega
      go_wp2_with fail
      refine bodyPost_ret (v := .agg #[.slice (some ⟨B, o', none⟩) 24 k']) (by simp [results, Tryd.results39, go_sem, cA, cR]) rfl ⟨B, o', k', rfl, ?_, hB3, by (repeat' (first | (with_reducible assumption) | (with_reducible exact Ext.refl _) | (with_reducible refine Ext.alloc ?_ _) | (with_reducible refine Ext.drew ?_) | (with_reducible refine Ext.drewN ?_ _) | (with_reducible refine Ext.setCell ?_ ?_ _) | (with_reducible refine Ext.trans ?_ (by assumption)) | go_size))⟩
      rw [List.take_of_length_le (by rw [List.length_map, Hn1.out]; exact Nat.le_refl _)] at hv
      exact VA.other hv (by show w.heap.size + 1 ≠ B; omega) _
set_option maxHeartbeats 1000000 in
theorem Unc2_v {w1 w2 w3 : World} {b o B1 o1 B2 o2 : Nat} (k c1 c2 : Nat) {l l1 l2 : List Int} (w : World) (h : VA w1 b o l) (e1 : Ext w1 w) (h1 : VA w2 B1 o1 l1) (e2 : Ext w2 w) (h2 : VA w3 B2 o2 l2) (e3 : Ext w3 w) :
    Calls Tryd.prog 43 #[.agg #[.slice (some ⟨b, o, none⟩) 24 k], .agg #[.slice (some ⟨B1, o1, none⟩) 24 c1, .slice (some ⟨B2, o2, none⟩) 24 c2]] w (RetF w (Globe.lessL l l1)) := by
  have H := Lib.hid (h.ext e1)
  have H1 := Lib.hid (h1.ext e2)
  have H2 := Lib.hid (h2.ext e3)
  clear h h1 h2 e1 e2 e3
  go_enter Tryd.func43, Tryd.ntmps43
  go_wp2_with (go_at_call 42; refine (less_v _ _ _ H.out (by (repeat' (first | (with_reducible assumption) | (with_reducible exact Ext.refl _) | (with_reducible refine Ext.alloc ?_ _) | (with_reducible refine Ext.drew ?_) | (with_reducible refine Ext.drewN ?_ _) | (with_reducible refine Ext.setCell ?_ ?_ _) | (with_reducible refine Ext.trans ?_ (by assumption)) | go_size))) H1.out (by (repeat' (first | (with_reducible assumption) | (with_reducible exact Ext.refl _) | (with_reducible refine Ext.alloc ?_ _) | (with_reducible refine Ext.drew ?_) | (with_reducible refine Ext.drewN ?_ _) | (with_reducible refine Ext.setCell ?_ ?_ _) | (with_reducible refine Ext.trans ?_ (by assumption)) | go_size)))).mono ?_; rintro e w1 ⟨B, k, rfl, hB, hv, hb⟩; have hc := hb.cellE; have hf := hb.frozenE; have hz := hb.size; have ha := alloc_keeps w1; (try simp only [World.size_alloc] at hc hf hz); (try simp only [World.size_setCell] at hc hf hz); (try simp only [World.size_drew] at hc hf hz))
  have hB2 : w.heap.size + 1 + 1 < B := by simp at hB; omega
  refine bodyPost_ret (v := .agg #[.slice (some ⟨B, 0, none⟩) 24 k]) (by simp [results, Tryd.results43, go_sem, hc, ha]) rfl ⟨B, k, rfl, by omega, ?_, by (repeat' (first | (with_reducible assumption) | (with_reducible exact Ext.refl _) | (with_reducible refine Ext.alloc ?_ _) | (with_reducible refine Ext.drew ?_) | (with_reducible refine Ext.drewN ?_ _) | (with_reducible refine Ext.setCell ?_ ?_ _) | (with_reducible refine Ext.trans ?_ (by assumption)) | go_size))⟩
  refine VA.other (hv.ext (by (repeat' (first | (with_reducible assumption) | (with_reducible exact Ext.refl _) | (with_reducible refine Ext.alloc ?_ _) | (with_reducible refine Ext.drew ?_) | (with_reducible refine Ext.drewN ?_ _) | (with_reducible refine Ext.setCell ?_ ?_ _) | (with_reducible refine Ext.trans ?_ (by assumption)) | go_size)))) (by show w.heap.size + 1 + 1 ≠ B; omega) _

set_option maxHeartbeats 2000000 in
theorem foldU2_v {w1 w2 : World} {a : Option Addr} {n : Nat} {ss : List (List Int × List Int)} {b o : Nat} (c k : Nat) {l : List Int} (w : World) (h : StripsAt w1 a n ss) (e1 : Ext w1 w) (hok : Globe.stripsOk ss = true) (hl : VA w2 b o l) (e2 : Ext w2 w) :
    Calls Tryd.prog 39 #[.slice a n c, .agg #[.slice (some ⟨b, o, none⟩) 24 k], .func (.func 43) #[] #[]] w (RetO w b (Globe.leftL l (ss.map fun s => s.1))) := by
  have H := Lib.hid (h.ext e1)
  have HL := Lib.hid (hl.ext e2)
  have hbl := HL.out.lt
  have hn := H.out.2.1
  have hn1 := H.out.1
  have Hok := Lib.hid hok
  clear h hl e1 e2 hok
  have Hn1 := Lib.hid hn1; clear hn1
  go_enter Tryd.func39, Tryd.ntmps39
  go_wp2_with fail
  go_loopw [11] (fun p wr => ∃ i : Nat, i ≤ n ∧ p = .int .i64 i ∧ Ext w wr ∧ BoxAt wr (w.heap.size + 1) 0 (.slice none 0 0) ∧ ∃ B o' k', BoxAt wr w.heap.size 0 (.slice (some ⟨B, o', none⟩) 24 k') ∧ VA wr B o' (Globe.leftL l ((ss.map fun s => s.1).take i)) ∧ B ≠ w.heap.size ∧ B ≠ w.heap.size + 1 ∧ (B = b ∨ w.heap.size ≤ B)) (fun p _ => n - (intOf p).toNat)
  case atStart => exact ⟨0, by omega, rfl, by (repeat' (first | (with_reducible assumption) | (with_reducible exact Ext.refl _) | (with_reducible refine Ext.alloc ?_ _) | (with_reducible refine Ext.drew ?_) | (with_reducible refine Ext.drewN ?_ _) | (with_reducible refine Ext.setCell ?_ ?_ _) | (with_reducible refine Ext.trans ?_ (by assumption)) | go_size)), ⟨by simp [go_sem], by simp [go_sem]⟩, b, o, k, ⟨by simp [go_sem], by simp [go_sem]⟩, HL.out.ext (by (repeat' (first | (with_reducible assumption) | (with_reducible exact Ext.refl _) | (with_reducible refine Ext.alloc ?_ _) | (with_reducible refine Ext.drew ?_) | (with_reducible refine Ext.drewN ?_ _) | (with_reducible refine Ext.setCell ?_ ?_ _) | (with_reducible refine Ext.trans ?_ (by assumption)) | go_size))), by omega, by omega, .inl rfl⟩
  case round =>
    obtain ⟨i, hi, rfl, hE, hR, B, o', k', hA, hv, hB1, hB2, hB3⟩ := hrel
    obtain ⟨cA, fA⟩ := hA
    obtain ⟨cR, fR⟩ := hR
    have lA := World.block_lt_of_cell? wr _ cA
    have lR := World.block_lt_of_cell? wr _ cR
    by_cases hlt : i < n
    · obtain ⟨b3, off, s, rfl, hs, hst⟩ := H.out.at hlt
      obtain ⟨q1, q2, q3⟩ := okS_at Hok.out hs
      obtain ⟨B1, o1, c1, B2, o2, c2, d1, d2, g1, g2⟩ := hst.v q1 q2
      replace d1 := hE.cell d1; replace d2 := hE.cell d2
      have ld1 := World.block_lt_of_cell? wr _ d1
      have i0 : (0 : Int) ≤ (i : Int) := by omega
      have i1 : (i : Int) < (n : Int) := by omega
      have hsn : Globe.leftL l ((ss.map fun s => s.1).take (i + 1)) = Globe.lessL (Globe.leftL l ((ss.map fun s => s.1).take i)) s.1 := by
        rw [take_snoc' (x := s.1) (by rw [List.getElem?_map, hs]; rfl), Globe.left_snoc]
      have Hsn := Lib.hid hsn; clear hsn hs hst q1 q2 q3
      go_wp2_with (go_at_call 43; refine (Unc2_v _ _ _ _ hv (by (repeat' (first | (with_reducible assumption) | (with_reducible exact Ext.refl _) | (with_reducible refine Ext.alloc ?_ _) | (with_reducible refine Ext.drew ?_) | (with_reducible refine Ext.drewN ?_ _) | (with_reducible refine Ext.setCell ?_ ?_ _) | (with_reducible refine Ext.trans ?_ (by assumption)) | go_size))) (g1.ext hE) (by (repeat' (first | (with_reducible assumption) | (with_reducible exact Ext.refl _) | (with_reducible refine Ext.alloc ?_ _) | (with_reducible refine Ext.drew ?_) | (with_reducible refine Ext.drewN ?_ _) | (with_reducible refine Ext.setCell ?_ ?_ _) | (with_reducible refine Ext.trans ?_ (by assumption)) | go_size))) (g2.ext hE) (by (repeat' (first | (with_reducible assumption) | (with_reducible exact Ext.refl _) | (with_reducible refine Ext.alloc ?_ _) | (with_reducible refine Ext.drew ?_) | (with_reducible refine Ext.drewN ?_ _) | (with_reducible refine Ext.setCell ?_ ?_ _) | (with_reducible refine Ext.trans ?_ (by assumption)) | go_size)))).mono ?_; rintro e w1 ⟨B', k3, rfl, hB', hv', hb⟩; have hc := hb.cellE; have hf := hb.frozenE; have hz := hb.size; have ha := alloc_keeps w1; (try simp only [World.size_alloc] at hc hf hz); (try simp only [World.size_setCell] at hc hf hz); (try simp only [World.size_drew] at hc hf hz))
      go_roundw
      case rel => exact ⟨i + 1, by omega, by go_num, by (repeat' (first | (with_reducible assumption) | (with_reducible exact Ext.refl _) | (with_reducible refine Ext.alloc ?_ _) | (with_reducible refine Ext.drew ?_) | (with_reducible refine Ext.drewN ?_ _) | (with_reducible refine Ext.setCell ?_ ?_ _) | (with_reducible refine Ext.trans ?_ (by assumption)) | go_size)), BoxAt.other (BoxAt.ext (by (repeat' (first | (with_reducible assumption) | (with_reducible exact Ext.refl _) | (with_reducible refine Ext.alloc ?_ _) | (with_reducible refine Ext.drew ?_) | (with_reducible refine Ext.drewN ?_ _) | (with_reducible refine Ext.setCell ?_ ?_ _) | (with_reducible refine Ext.trans ?_ (by assumption)) | go_size))) ⟨cR, fR⟩) (by show w.heap.size ≠ w.heap.size + 1; omega) _, B', 0, k3, BoxAt.set (BoxAt.ext (by (repeat' (first | (with_reducible assumption) | (with_reducible exact Ext.refl _) | (with_reducible refine Ext.alloc ?_ _) | (with_reducible refine Ext.drew ?_) | (with_reducible refine Ext.drewN ?_ _) | (with_reducible refine Ext.setCell ?_ ?_ _) | (with_reducible refine Ext.trans ?_ (by assumption)) | go_size))) ⟨cA, fA⟩) _, by rw [Hsn.out]; exact VA.other (hv'.ext (by (repeat' (first | (with_reducible assumption) | (with_reducible exact Ext.refl _) | (with_reducible refine Ext.alloc ?_ _) | (with_reducible refine Ext.drew ?_) | (with_reducible refine Ext.drewN ?_ _) | (with_reducible refine Ext.setCell ?_ ?_ _) | (with_reducible refine Ext.trans ?_ (by assumption)) | go_size)))) (by show w.heap.size ≠ B'; (try simp at hB'); omega) _, by (try simp at hB'); omega, by (try simp at hB'); omega, .inr (by (try simp at hB'); omega)⟩
      case measure => simp [intOf]; omega
    · obtain rfl : i = n := by omega
      go_wp2_with fail
      refine bodyPost_ret (v := .agg #[.slice (some ⟨B, o', none⟩) 24 k']) (by simp [results, Tryd.results39, go_sem, cA, cR]) rfl ⟨B, o', k', rfl, ?_, hB3, by (repeat' (first | (with_reducible assumption) | (with_reducible exact Ext.refl _) | (with_reducible refine Ext.alloc ?_ _) | (with_reducible refine Ext.drew ?_) | (with_reducible refine Ext.drewN ?_ _) | (with_reducible refine Ext.setCell ?_ ?_ _) | (with_reducible refine Ext.trans ?_ (by assumption)) | go_size))⟩
      rw [List.take_of_length_le (by rw [List.length_map, Hn1.out]; exact Nat.le_refl _)] at hv
      exact VA.other hv (by show w.heap.size + 1 ≠ B; omega) _

end Go.Proofs.YtglfoglkdbbmmaaDoor
