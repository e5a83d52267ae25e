/- Contracts of package globe: mixed. -/
import Derived.Test.YtglfoglkdbbmmaaDoorG6
namespace Go.Proofs.YtglfoglkdbbmmaaDoor
open Go.RowKit

theorem Valid_n (a : Option Addr) (l : List Int) (n c : Nat) (w : World) (h : IntsAt w a l) (hn : l.length = n) (hl : n ≤ 140737488355328) :
    Calls Tryd.prog 38 #[.agg #[.slice a n c]] w fun e w' => e = .returned (.bool (Globe.validL l)) ∧ Ext w w' := by
  subst hn
  exact Valid_c a l c w h hl
theorem Valid_v {v : Bool} (a : Option Addr) (l : List Int) (n c : Nat) (w : World) (h : IntsAt w a l) (hn : l.length = n) (hl : n ≤ 140737488355328) (hv : Globe.validL l = v) :
    Calls Tryd.prog 38 #[.agg #[.slice a n c]] w fun e w' => e = .returned (.bool v) ∧ Ext w w' := hv ▸ Valid_n a l n c w h hn hl
theorem Valid_y (b o c : Nat) (l : List Int) (w : World) (h : ∀ i, i < 24 → w.cell? ⟨b, o + i, none⟩ = some (.int .i64 (Globe.nth l i))) (hv : Globe.validL l = true) :
    Calls Tryd.prog 38 #[.agg #[.slice (some ⟨b, o, none⟩) 24 c]] w fun e w' => e = .returned (.bool true) ∧ Ext w w' := by
  have hn := Globe.len_of_valid hv
  have := Valid_n (some ⟨b, o, none⟩) l 24 c w (.inr ⟨b, o, rfl, fun i hi => h i (by omega)⟩) hn (by omega)
  rwa [hv] at this

theorem Valid_e {v : Bool} {w0 : World} {a : Option Addr} {l : List Int} {n : Nat} (c : Nat) (w : World) (h : AA w0 a l n v) (hE : Ext w0 w) :
    Calls Tryd.prog 38 #[.agg #[.slice a n c]] w fun e w' => e = .returned (.bool v) ∧ Ext w w' :=
  Valid_v a l n c w (h.1.ext hE) h.2.1 h.2.2.1 h.2.2.2

/-- In the midst of the loop that fills the rows of an area of one's own (block B, its box at O). -/
def Fill (w : World) (O B : Nat) (L : List Int) (wr : World) : Prop := RowsAt wr B L ∧ wr.cell? ⟨O, 0, none⟩ = some (.slice (some ⟨B, 0, none⟩) 24 24) ∧ Ext w wr

set_option maxHeartbeats 2000000 in
theorem mixed_Union (b1 o1 c1 b2 o2 c2 : Nat) (l1 l2 : List Int) (w : World) (h1 : ∀ i, i < 24 → w.cell? ⟨b1, o1 + i, none⟩ = some (.int .i64 (Globe.nth l1 i))) (h2 : ∀ i, i < 24 → w.cell? ⟨b2, o2 + i, none⟩ = some (.int .i64 (Globe.nth l2 i)))
    (hv1 : Globe.validL l1 = true) (hv2 : Globe.validL l2 = true) :
    Calls Tryd.prog 56 #[.agg #[.slice (some ⟨b1, o1, none⟩) 24 c1], .agg #[.slice (some ⟨b2, o2, none⟩) 24 c2], .func (.func 59) #[] #[]] w (RetAE w (Globe.unionL l1 l2)) := by
  have H1 := Lib.hid h1; clear h1
  have H2 := Lib.hid h2; clear h2
  have Hv1 := Lib.hid hv1; clear hv1
  have Hv2 := Lib.hid hv2; clear hv2
  go_enter Tryd.func56, Tryd.ntmps56
  go_wp2_with (first | (go_at_call 38; refine (Valid_y _ _ _ _ _ (fun i hi => Ext.cell (show Ext w _ by (repeat' (first | (with_reducible assumption) | (with_reducible exact Ext.refl _) | (with_reducible refine Ext.alloc ?_ _) | (with_reducible refine Ext.drew ?_) | (with_reducible refine Ext.drewN ?_ _) | (with_reducible refine Ext.setCell ?_ ?_ _) | (with_reducible refine Ext.trans ?_ (by assumption)) | go_size))) (by first | exact H1.out i hi | exact H2.out i hi)) (by first | exact Hv1.out | exact Hv2.out)).mono ?_; rintro e w1 ⟨rfl, hb⟩; have hc := hb.cellE; have hf := hb.frozenE; have hz := hb.size; have ha := alloc_keeps w1; (try simp only [World.size_alloc] at hc hf hz); (try simp only [World.size_setCell] at hc hf hz); (try simp only [World.size_drew] at hc hf hz)) | (go_at_call 73; refine (Empty_c _).mono ?_; rintro e w2 ⟨B, rfl, hB, hr, hb2⟩))
  obtain ⟨O, hO⟩ : ∃ O, O = w2.heap.size := ⟨_, rfl⟩
  have hBO : B < O := by have := hr.lt; omega
  have hwB : w.heap.size + 1 + 1 + 1 ≤ B := by omega
  refine wp_name (fun V => V.cell? ⟨w.heap.size, 0, none⟩ = some (.slice (some ⟨b1, o1, none⟩) 24 c1) ∧ V.cell? ⟨w.heap.size + 1, 0, none⟩ = some (.slice (some ⟨b2, o2, none⟩) 24 c2) ∧ BoxAt V (w.heap.size + 1 + 1) 0 (.slice none 0 0) ∧ Fill w O B Globe.zeroL V) ⟨?_, ?_, ?_, ?_⟩ ?_
  · (repeat' (first | (with_reducible assumption) | (simp [go_sem]; done) | (with_reducible refine Ext.cell (Ext.alloc (Ext.refl _) _) ?_) | (with_reducible refine Ext.cell (by with_reducible assumption) ?_)))
  · (repeat' (first | (with_reducible assumption) | (simp [go_sem]; done) | (with_reducible refine Ext.cell (Ext.alloc (Ext.refl _) _) ?_) | (with_reducible refine Ext.cell (by with_reducible assumption) ?_)))
  · (repeat' (first | (with_reducible assumption) | (exact ⟨by simp [go_sem], by simp [go_sem]⟩) | (with_reducible refine BoxAt.ext (Ext.alloc (Ext.refl _) _) ?_) | (with_reducible refine BoxAt.ext (by with_reducible assumption) ?_)))
  · exact ⟨hr.ext (by (repeat' (first | (with_reducible assumption) | (with_reducible exact Ext.refl _) | (with_reducible refine Ext.alloc ?_ _) | (with_reducible refine Ext.drew ?_) | (with_reducible refine Ext.drewN ?_ _) | (with_reducible refine Ext.setCell ?_ ?_ _) | (with_reducible refine Ext.trans ?_ (by assumption)) | go_size))), by rw [hO]; simp [go_sem], by (repeat' (first | (with_reducible assumption) | (with_reducible exact Ext.refl _) | (with_reducible refine Ext.alloc ?_ _) | (with_reducible refine Ext.drew ?_) | (with_reducible refine Ext.drewN ?_ _) | (with_reducible refine Ext.setCell ?_ ?_ _) | (with_reducible refine Ext.trans ?_ (by assumption)) | go_size))⟩
  rintro V ⟨c3, c4, c6, hF⟩
  rw [← hO]
  clear hO hr hb2 hB
  iterate 2 clear hc hf hz ha hb
  rw [← Globe.partL_zero (Globe.unionL l1 l2)] at hF
  have hL : (Globe.unionL l1 l2).length = 24 := Globe.rowsF_len _
  have HL := Lib.hid hL; clear hL
  go_loopw [23] (fun p wr => ∃ y : Nat, y ≤ 24 ∧ p = .int .i64 y ∧ wr.cell? ⟨w.heap.size, 0, none⟩ = some (.slice (some ⟨b1, o1, none⟩) 24 c1) ∧ wr.cell? ⟨w.heap.size + 1, 0, none⟩ = some (.slice (some ⟨b2, o2, none⟩) 24 c2) ∧ BoxAt wr (w.heap.size + 1 + 1) 0 (.slice none 0 0) ∧ Fill w O B (Globe.partL (Globe.unionL l1 l2) y) wr) (fun p _ => 24 - (intOf p).toNat)
  case atStart => exact ⟨0, by omega, rfl, c3, c4, c6, hF⟩
  case round =>
    clear c3 c4 c6 hF
    obtain ⟨y, hy, rfl, c3, c4, c6, hr, cO, hE⟩ := hrel
    have hOl := World.block_lt_of_cell? wr _ cO
    by_cases hlt : y < 24
    · have hp := Globe.rowN_lt Hv1.out y
      have hq := Globe.rowN_lt Hv2.out y
      have d1 : wr.cell? ⟨b1, o1 + y, none⟩ = some (.int .i64 (Globe.rowN l1 y : Nat)) := by rw [← Globe.rowN_cast Hv1.out]; exact hE.cell (H1.out y hlt)
      have d2 : wr.cell? ⟨b2, o2 + y, none⟩ = some (.int .i64 (Globe.rowN l2 y : Nat)) := by rw [← Globe.rowN_cast Hv2.out]; exact hE.cell (H2.out y hlt)
      have d3 := hr.cell hlt
      have hb1 := IntsAt.lt H1.out
      have hb2 := IntsAt.lt H2.out
      have d4 := hr.free hlt
      have y0 : (0 : Int) ≤ (y : Int) := by omega
      have y1 : (y : Int) < 24 := by omega
      go_wp2_with fail
      go_region_held3 (fun w' => w'.cell? ⟨w.heap.size, 0, none⟩ = some (.slice (some ⟨b1, o1, none⟩) 24 c1) ∧ w'.cell? ⟨w.heap.size + 1, 0, none⟩ = some (.slice (some ⟨b2, o2, none⟩) 24 c2) ∧ w'.cell? ⟨O, 0, none⟩ = some (.slice (some ⟨B, 0, none⟩) 24 24) ∧ w'.cell? ⟨b1, o1 + y, none⟩ = some (.int .i64 (Globe.rowN l1 y : Nat)) ∧ w'.cell? ⟨b2, o2 + y, none⟩ = some (.int .i64 (Globe.rowN l2 y : Nat)))
        (first | ((repeat' (with_reducible apply And.intro)) <;> (first | (with_reducible assumption) | (simp [go_sem, c3, c4, cO, d1, d2]; done))))
        ((go_at_call 59; refine (Union1_c _ _ _ hp hq).mono ?_; rintro e w' ⟨rfl, rfl⟩))
      go_wp2
      go_roundw
      case rel =>
        refine ⟨y + 1, by omega, by go_num, by simpa [go_sem] using c3, by simpa [go_sem] using c4, (c6.other (p := ⟨B, y, none⟩) (by show B ≠ _; omega) _).drew, ?_, by simpa [go_sem] using cO, by (repeat' (first | (with_reducible assumption) | (with_reducible exact Ext.refl _) | (with_reducible refine Ext.alloc ?_ _) | (with_reducible refine Ext.drew ?_) | (with_reducible refine Ext.drewN ?_ _) | (with_reducible refine Ext.setCell ?_ ?_ _) | (with_reducible refine Ext.trans ?_ (by assumption)) | go_size))⟩
        have := (hr.set hlt (Globe.nth (Globe.unionL l1 l2) y)).drew
        rwa [Globe.partL_succ HL.out hlt, show Globe.nth (Globe.unionL l1 l2) y = _ from Globe.nth_rowsF _ hlt] at this
      case measure => simp [intOf]; omega
    · obtain rfl : y = 24 := by omega
      rw [Globe.partL_all HL.out] at hr
      obtain ⟨c6, f6⟩ := c6
      go_wp2_with fail
      refine bodyPost_ret (v := .tuple #[.agg #[.slice (some ⟨B, 0, none⟩) 24 24], .int .i64 0]) (by simp [results, Tryd.results56, go_sem, c6]) rfl ⟨B, rfl, by omega, hr.other (by show w.heap.size + 1 + 1 ≠ _; omega) _, by (repeat' (first | (with_reducible assumption) | (with_reducible exact Ext.refl _) | (with_reducible refine Ext.alloc ?_ _) | (with_reducible refine Ext.drew ?_) | (with_reducible refine Ext.drewN ?_ _) | (with_reducible refine Ext.setCell ?_ ?_ _) | (with_reducible refine Ext.trans ?_ (by assumption)) | go_size))⟩
set_option maxHeartbeats 2000000 in
theorem mixed_Meet (b1 o1 c1 b2 o2 c2 : Nat) (l1 l2 : List Int) (w : World) (h1 : ∀ i, i < 24 → w.cell? ⟨b1, o1 + i, none⟩ = some (.int .i64 (Globe.nth l1 i))) (h2 : ∀ i, i < 24 → w.cell? ⟨b2, o2 + i, none⟩ = some (.int .i64 (Globe.nth l2 i)))
    (hv1 : Globe.validL l1 = true) (hv2 : Globe.validL l2 = true) :
    Calls Tryd.prog 56 #[.agg #[.slice (some ⟨b1, o1, none⟩) 24 c1], .agg #[.slice (some ⟨b2, o2, none⟩) 24 c2], .func (.func 57) #[] #[]] w (RetAE w (Globe.meetL l1 l2)) := by
  have H1 := Lib.hid h1; clear h1
  have H2 := Lib.hid h2; clear h2
  have Hv1 := Lib.hid hv1; clear hv1
  have Hv2 := Lib.hid hv2; clear hv2
  go_enter Tryd.func56, Tryd.ntmps56
  go_wp2_with (first | (go_at_call 38; refine (Valid_y _ _ _ _ _ (fun i hi => Ext.cell (show Ext w _ by (repeat' (first | (with_reducible assumption) | (with_reducible exact Ext.refl _) | (with_reducible refine Ext.alloc ?_ _) | (with_reducible refine Ext.drew ?_) | (with_reducible refine Ext.drewN ?_ _) | (with_reducible refine Ext.setCell ?_ ?_ _) | (with_reducible refine Ext.trans ?_ (by assumption)) | go_size))) (by first | exact H1.out i hi | exact H2.out i hi)) (by first | exact Hv1.out | exact Hv2.out)).mono ?_; rintro e w1 ⟨rfl, hb⟩; have hc := hb.cellE; have hf := hb.frozenE; have hz := hb.size; have ha := alloc_keeps w1; (try simp only [World.size_alloc] at hc hf hz); (try simp only [World.size_setCell] at hc hf hz); (try simp only [World.size_drew] at hc hf hz)) | (go_at_call 73; refine (Empty_c _).mono ?_; rintro e w2 ⟨B, rfl, hB, hr, hb2⟩))
  obtain ⟨O, hO⟩ : ∃ O, O = w2.heap.size := ⟨_, rfl⟩
  have hBO : B < O := by have := hr.lt; omega
  have hwB : w.heap.size + 1 + 1 + 1 ≤ B := by omega
  refine wp_name (fun V => V.cell? ⟨w.heap.size, 0, none⟩ = some (.slice (some ⟨b1, o1, none⟩) 24 c1) ∧ V.cell? ⟨w.heap.size + 1, 0, none⟩ = some (.slice (some ⟨b2, o2, none⟩) 24 c2) ∧ BoxAt V (w.heap.size + 1 + 1) 0 (.slice none 0 0) ∧ Fill w O B Globe.zeroL V) ⟨?_, ?_, ?_, ?_⟩ ?_
  · (repeat' (first | (with_reducible assumption) | (simp [go_sem]; done) | (with_reducible refine Ext.cell (Ext.alloc (Ext.refl _) _) ?_) | (with_reducible refine Ext.cell (by with_reducible assumption) ?_)))
  · (repeat' (first | (with_reducible assumption) | (simp [go_sem]; done) | (with_reducible refine Ext.cell (Ext.alloc (Ext.refl _) _) ?_) | (with_reducible refine Ext.cell (by with_reducible assumption) ?_)))
  · (repeat' (first | (with_reducible assumption) | (exact ⟨by simp [go_sem], by simp [go_sem]⟩) | (with_reducible refine BoxAt.ext (Ext.alloc (Ext.refl _) _) ?_) | (with_reducible refine BoxAt.ext (by with_reducible assumption) ?_)))
  · exact ⟨hr.ext (by (repeat' (first | (with_reducible assumption) | (with_reducible exact Ext.refl _) | (with_reducible refine Ext.alloc ?_ _) | (with_reducible refine Ext.drew ?_) | (with_reducible refine Ext.drewN ?_ _) | (with_reducible refine Ext.setCell ?_ ?_ _) | (with_reducible refine Ext.trans ?_ (by assumption)) | go_size))), by rw [hO]; simp [go_sem], by (repeat' (first | (with_reducible assumption) | (with_reducible exact Ext.refl _) | (with_reducible refine Ext.alloc ?_ _) | (with_reducible refine Ext.drew ?_) | (with_reducible refine Ext.drewN ?_ _) | (with_reducible refine Ext.setCell ?_ ?_ _) | (with_reducible refine Ext.trans ?_ (by assumption)) | go_size))⟩
  rintro V ⟨c3, c4, c6, hF⟩
  rw [← hO]
  clear hO hr hb2 hB
  iterate 2 clear hc hf hz ha hb
  rw [← Globe.partL_zero (Globe.meetL l1 l2)] at hF
  have hL : (Globe.meetL l1 l2).length = 24 := Globe.rowsF_len _
  have HL := Lib.hid hL; clear hL
  go_loopw [23] (fun p wr => ∃ y : Nat, y ≤ 24 ∧ p = .int .i64 y ∧ wr.cell? ⟨w.heap.size, 0, none⟩ = some (.slice (some ⟨b1, o1, none⟩) 24 c1) ∧ wr.cell? ⟨w.heap.size + 1, 0, none⟩ = some (.slice (some ⟨b2, o2, none⟩) 24 c2) ∧ BoxAt wr (w.heap.size + 1 + 1) 0 (.slice none 0 0) ∧ Fill w O B (Globe.partL (Globe.meetL l1 l2) y) wr) (fun p _ => 24 - (intOf p).toNat)
  case atStart => exact ⟨0, by omega, rfl, c3, c4, c6, hF⟩
  case round =>
    clear c3 c4 c6 hF
    obtain ⟨y, hy, rfl, c3, c4, c6, hr, cO, hE⟩ := hrel
    have hOl := World.block_lt_of_cell? wr _ cO
    by_cases hlt : y < 24
    · have hp := Globe.rowN_lt Hv1.out y
      have hq := Globe.rowN_lt Hv2.out y
      have d1 : wr.cell? ⟨b1, o1 + y, none⟩ = some (.int .i64 (Globe.rowN l1 y : Nat)) := by rw [← Globe.rowN_cast Hv1.out]; exact hE.cell (H1.out y hlt)
      have d2 : wr.cell? ⟨b2, o2 + y, none⟩ = some (.int .i64 (Globe.rowN l2 y : Nat)) := by rw [← Globe.rowN_cast Hv2.out]; exact hE.cell (H2.out y hlt)
      have d3 := hr.cell hlt
      have hb1 := IntsAt.lt H1.out
      have hb2 := IntsAt.lt H2.out
      have d4 := hr.free hlt
      have y0 : (0 : Int) ≤ (y : Int) := by omega
      have y1 : (y : Int) < 24 := by omega
      go_wp2_with fail
      go_region_held3 (fun w' => w'.cell? ⟨w.heap.size, 0, none⟩ = some (.slice (some ⟨b1, o1, none⟩) 24 c1) ∧ w'.cell? ⟨w.heap.size + 1, 0, none⟩ = some (.slice (some ⟨b2, o2, none⟩) 24 c2) ∧ w'.cell? ⟨O, 0, none⟩ = some (.slice (some ⟨B, 0, none⟩) 24 24) ∧ w'.cell? ⟨b1, o1 + y, none⟩ = some (.int .i64 (Globe.rowN l1 y : Nat)) ∧ w'.cell? ⟨b2, o2 + y, none⟩ = some (.int .i64 (Globe.rowN l2 y : Nat)))
        (first | ((repeat' (with_reducible apply And.intro)) <;> (first | (with_reducible assumption) | (simp [go_sem, c3, c4, cO, d1, d2]; done))))
        ((go_at_call 57; refine (Meet1_c _ _ _ hp hq).mono ?_; rintro e w' ⟨rfl, rfl⟩))
      go_wp2
      go_roundw
      case rel =>
        refine ⟨y + 1, by omega, by go_num, by simpa [go_sem] using c3, by simpa [go_sem] using c4, (c6.other (p := ⟨B, y, none⟩) (by show B ≠ _; omega) _).drew, ?_, by simpa [go_sem] using cO, by (repeat' (first | (with_reducible assumption) | (with_reducible exact Ext.refl _) | (with_reducible refine Ext.alloc ?_ _) | (with_reducible refine Ext.drew ?_) | (with_reducible refine Ext.drewN ?_ _) | (with_reducible refine Ext.setCell ?_ ?_ _) | (with_reducible refine Ext.trans ?_ (by assumption)) | go_size))⟩
        have := (hr.set hlt (Globe.nth (Globe.meetL l1 l2) y)).drew
        rwa [Globe.partL_succ HL.out hlt, show Globe.nth (Globe.meetL l1 l2) y = _ from Globe.nth_rowsF _ hlt] at this
      case measure => simp [intOf]; omega
    · obtain rfl : y = 24 := by omega
      rw [Globe.partL_all HL.out] at hr
      obtain ⟨c6, f6⟩ := c6
      go_wp2_with fail
      refine bodyPost_ret (v := .tuple #[.agg #[.slice (some ⟨B, 0, none⟩) 24 24], .int .i64 0]) (by simp [results, Tryd.results56, go_sem, c6]) rfl ⟨B, rfl, by omega, hr.other (by show w.heap.size + 1 + 1 ≠ _; omega) _, by (repeat' (first | (with_reducible assumption) | (with_reducible exact Ext.refl _) | (with_reducible refine Ext.alloc ?_ _) | (with_reducible refine Ext.drew ?_) | (with_reducible refine Ext.drewN ?_ _) | (with_reducible refine Ext.setCell ?_ ?_ _) | (with_reducible refine Ext.trans ?_ (by assumption)) | go_size))⟩
set_option maxHeartbeats 2000000 in
theorem mixed_Less (b1 o1 c1 b2 o2 c2 : Nat) (l1 l2 : List Int) (w : World) (h1 : ∀ i, i < 24 → w.cell? ⟨b1, o1 + i, none⟩ = some (.int .i64 (Globe.nth l1 i))) (h2 : ∀ i, i < 24 → w.cell? ⟨b2, o2 + i, none⟩ = some (.int .i64 (Globe.nth l2 i)))
    (hv1 : Globe.validL l1 = true) (hv2 : Globe.validL l2 = true) :
    Calls Tryd.prog 56 #[.agg #[.slice (some ⟨b1, o1, none⟩) 24 c1], .agg #[.slice (some ⟨b2, o2, none⟩) 24 c2], .func (.func 60) #[] #[]] w (RetAE w (Globe.lessL l1 l2)) := by
  have H1 := Lib.hid h1; clear h1
  have H2 := Lib.hid h2; clear h2
  have Hv1 := Lib.hid hv1; clear hv1
  have Hv2 := Lib.hid hv2; clear hv2
  go_enter Tryd.func56, Tryd.ntmps56
  go_wp2_with (first | (go_at_call 38; refine (Valid_y _ _ _ _ _ (fun i hi => Ext.cell (show Ext w _ by (repeat' (first | (with_reducible assumption) | (with_reducible exact Ext.refl _) | (with_reducible refine Ext.alloc ?_ _) | (with_reducible refine Ext.drew ?_) | (with_reducible refine Ext.drewN ?_ _) | (with_reducible refine Ext.setCell ?_ ?_ _) | (with_reducible refine Ext.trans ?_ (by assumption)) | go_size))) (by first | exact H1.out i hi | exact H2.out i hi)) (by first | exact Hv1.out | exact Hv2.out)).mono ?_; rintro e w1 ⟨rfl, hb⟩; have hc := hb.cellE; have hf := hb.frozenE; have hz := hb.size; have ha := alloc_keeps w1; (try simp only [World.size_alloc] at hc hf hz); (try simp only [World.size_setCell] at hc hf hz); (try simp only [World.size_drew] at hc hf hz)) | (go_at_call 73; refine (Empty_c _).mono ?_; rintro e w2 ⟨B, rfl, hB, hr, hb2⟩))
  obtain ⟨O, hO⟩ : ∃ O, O = w2.heap.size := ⟨_, rfl⟩
  have hBO : B < O := by have := hr.lt; omega
  have hwB : w.heap.size + 1 + 1 + 1 ≤ B := by omega
  refine wp_name (fun V => V.cell? ⟨w.heap.size, 0, none⟩ = some (.slice (some ⟨b1, o1, none⟩) 24 c1) ∧ V.cell? ⟨w.heap.size + 1, 0, none⟩ = some (.slice (some ⟨b2, o2, none⟩) 24 c2) ∧ BoxAt V (w.heap.size + 1 + 1) 0 (.slice none 0 0) ∧ Fill w O B Globe.zeroL V) ⟨?_, ?_, ?_, ?_⟩ ?_
  · (repeat' (first | (with_reducible assumption) | (simp [go_sem]; done) | (with_reducible refine Ext.cell (Ext.alloc (Ext.refl _) _) ?_) | (with_reducible refine Ext.cell (by with_reducible assumption) ?_)))
  · (repeat' (first | (with_reducible assumption) | (simp [go_sem]; done) | (with_reducible refine Ext.cell (Ext.alloc (Ext.refl _) _) ?_) | (with_reducible refine Ext.cell (by with_reducible assumption) ?_)))
  · (repeat' (first | (with_reducible assumption) | (exact ⟨by simp [go_sem], by simp [go_sem]⟩) | (with_reducible refine BoxAt.ext (Ext.alloc (Ext.refl _) _) ?_) | (with_reducible refine BoxAt.ext (by with_reducible assumption) ?_)))
  · exact ⟨hr.ext (by (repeat' (first | (with_reducible assumption) | (with_reducible exact Ext.refl _) | (with_reducible refine Ext.alloc ?_ _) | (with_reducible refine Ext.drew ?_) | (with_reducible refine Ext.drewN ?_ _) | (with_reducible refine Ext.setCell ?_ ?_ _) | (with_reducible refine Ext.trans ?_ (by assumption)) | go_size))), by rw [hO]; simp [go_sem], by (repeat' (first | (with_reducible assumption) | (with_reducible exact Ext.refl _) | (with_reducible refine Ext.alloc ?_ _) | (with_reducible refine Ext.drew ?_) | (with_reducible refine Ext.drewN ?_ _) | (with_reducible refine Ext.setCell ?_ ?_ _) | (with_reducible refine Ext.trans ?_ (by assumption)) | go_size))⟩
  rintro V ⟨c3, c4, c6, hF⟩
  rw [← hO]
  clear hO hr hb2 hB
  iterate 2 clear hc hf hz ha hb
  rw [← Globe.partL_zero (Globe.lessL l1 l2)] at hF
  have hL : (Globe.lessL l1 l2).length = 24 := Globe.rowsF_len _
  have HL := Lib.hid hL; clear hL
  go_loopw [23] (fun p wr => ∃ y : Nat, y ≤ 24 ∧ p = .int .i64 y ∧ wr.cell? ⟨w.heap.size, 0, none⟩ = some (.slice (some ⟨b1, o1, none⟩) 24 c1) ∧ wr.cell? ⟨w.heap.size + 1, 0, none⟩ = some (.slice (some ⟨b2, o2, none⟩) 24 c2) ∧ BoxAt wr (w.heap.size + 1 + 1) 0 (.slice none 0 0) ∧ Fill w O B (Globe.partL (Globe.lessL l1 l2) y) wr) (fun p _ => 24 - (intOf p).toNat)
  case atStart => exact ⟨0, by omega, rfl, c3, c4, c6, hF⟩
  case round =>
    clear c3 c4 c6 hF
    obtain ⟨y, hy, rfl, c3, c4, c6, hr, cO, hE⟩ := hrel
    have hOl := World.block_lt_of_cell? wr _ cO
    by_cases hlt : y < 24
    · have hp := Globe.rowN_lt Hv1.out y
      have hq := Globe.rowN_lt Hv2.out y
      have d1 : wr.cell? ⟨b1, o1 + y, none⟩ = some (.int .i64 (Globe.rowN l1 y : Nat)) := by rw [← Globe.rowN_cast Hv1.out]; exact hE.cell (H1.out y hlt)
      have d2 : wr.cell? ⟨b2, o2 + y, none⟩ = some (.int .i64 (Globe.rowN l2 y : Nat)) := by rw [← Globe.rowN_cast Hv2.out]; exact hE.cell (H2.out y hlt)
      have d3 := hr.cell hlt
      have hb1 := IntsAt.lt H1.out
      have hb2 := IntsAt.lt H2.out
      have d4 := hr.free hlt
      have y0 : (0 : Int) ≤ (y : Int) := by omega
      have y1 : (y : Int) < 24 := by omega
      go_wp2_with fail
      go_region_held3 (fun w' => w'.cell? ⟨w.heap.size, 0, none⟩ = some (.slice (some ⟨b1, o1, none⟩) 24 c1) ∧ w'.cell? ⟨w.heap.size + 1, 0, none⟩ = some (.slice (some ⟨b2, o2, none⟩) 24 c2) ∧ w'.cell? ⟨O, 0, none⟩ = some (.slice (some ⟨B, 0, none⟩) 24 24) ∧ w'.cell? ⟨b1, o1 + y, none⟩ = some (.int .i64 (Globe.rowN l1 y : Nat)) ∧ w'.cell? ⟨b2, o2 + y, none⟩ = some (.int .i64 (Globe.rowN l2 y : Nat)))
        (first | ((repeat' (with_reducible apply And.intro)) <;> (first | (with_reducible assumption) | (simp [go_sem, c3, c4, cO, d1, d2]; done))))
        ((go_at_call 60; refine (Less1_c _ _ _ hp hq).mono ?_; rintro e w' ⟨rfl, rfl⟩))
      go_wp2
      go_roundw
      case rel =>
        refine ⟨y + 1, by omega, by go_num, by simpa [go_sem] using c3, by simpa [go_sem] using c4, (c6.other (p := ⟨B, y, none⟩) (by show B ≠ _; omega) _).drew, ?_, by simpa [go_sem] using cO, by (repeat' (first | (with_reducible assumption) | (with_reducible exact Ext.refl _) | (with_reducible refine Ext.alloc ?_ _) | (with_reducible refine Ext.drew ?_) | (with_reducible refine Ext.drewN ?_ _) | (with_reducible refine Ext.setCell ?_ ?_ _) | (with_reducible refine Ext.trans ?_ (by assumption)) | go_size))⟩
        have := (hr.set hlt (Globe.nth (Globe.lessL l1 l2) y)).drew
        rwa [Globe.partL_succ HL.out hlt, show Globe.nth (Globe.lessL l1 l2) y = _ from Globe.nth_rowsF _ hlt] at this
      case measure => simp [intOf]; omega
    · obtain rfl : y = 24 := by omega
      rw [Globe.partL_all HL.out] at hr
      obtain ⟨c6, f6⟩ := c6
      go_wp2_with fail
      refine bodyPost_ret (v := .tuple #[.agg #[.slice (some ⟨B, 0, none⟩) 24 24], .int .i64 0]) (by simp [results, Tryd.results56, go_sem, c6]) rfl ⟨B, rfl, by omega, hr.other (by show w.heap.size + 1 + 1 ≠ _; omega) _, by (repeat' (first | (with_reducible assumption) | (with_reducible exact Ext.refl _) | (with_reducible refine Ext.alloc ?_ _) | (with_reducible refine Ext.drew ?_) | (with_reducible refine Ext.drewN ?_ _) | (with_reducible refine Ext.setCell ?_ ?_ _) | (with_reducible refine Ext.trans ?_ (by assumption)) | go_size))⟩

end Go.Proofs.YtglfoglkdbbmmaaDoor
