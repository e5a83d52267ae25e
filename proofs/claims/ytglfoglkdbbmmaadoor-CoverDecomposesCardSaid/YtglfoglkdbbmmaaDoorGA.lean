/- Contracts of package globe: Shifted's loop; what is no area. -/
import Derived.Test.YtglfoglkdbbmmaaDoorG7
namespace Go.Proofs.YtglfoglkdbbmmaaDoor
open Go.RowKit

set_option maxHeartbeats 2000000 in
theorem mixed_Shifted (b1 o1 c1 b2 o2 c2 : Nat) (l1 l2 : List Int) (w : World) (h1 : ∀ i, i < 24 → w.cell? ⟨b1, o1 + i, none⟩ = some (.int .i64 (Globe.nth l1 i))) (h2 : ∀ i, i < 24 → w.cell? ⟨b2, o2 + i, none⟩ = some (.int .i64 (Globe.nth l2 i)))
    (hv1 : Globe.validL l1 = true) (hv2 : Globe.validL l2 = true) (k K : Nat) (hk : k < 48) (hkc : w.cell? ⟨K, 0, none⟩ = some (.int .i64 (k : Int))) :
    Calls Tryd.prog 56 #[.agg #[.slice (some ⟨b1, o1, none⟩) 24 c1], .agg #[.slice (some ⟨b2, o2, none⟩) 24 c2], .func (.func 61) #[] #[.pointer (some ⟨K, 0, none⟩)]] w (RetAE w (Globe.shiftL l1 k)) := by
  have H1 := Lib.hid h1; clear h1
  have H2 := Lib.hid h2; clear h2
  have Hv1 := Lib.hid hv1; clear hv1
  have Hk := Lib.hid hkc; clear hkc
  have hKl := World.block_lt_of_cell? w _ Hk.out
  have Hv2 := Lib.hid hv2; clear hv2
  go_enter Tryd.func56, Tryd.ntmps56
  go_wp2_with (first | (go_at_call 38; refine (Valid_y _ _ _ _ _ (fun i hi => Ext.cell (show Ext w _ by (repeat' (first | (with_reducible assumption) | (with_reducible exact Ext.refl _) | (with_reducible refine Ext.alloc ?_ _) | (with_reducible refine Ext.drew ?_) | (with_reducible refine Ext.drewN ?_ _) | (with_reducible refine Ext.setCell ?_ ?_ _) | (with_reducible refine Ext.trans ?_ (by assumption)) | go_size))) (by first | exact H1.out i hi | exact H2.out i hi)) (by first | exact Hv1.out | exact Hv2.out)).mono ?_; rintro e w1 ⟨rfl, hb⟩; have hc := hb.cellE; have hf := hb.frozenE; have hz := hb.size; have ha := alloc_keeps w1; (try simp only [World.size_alloc] at hc hf hz); (try simp only [World.size_setCell] at hc hf hz); (try simp only [World.size_drew] at hc hf hz)) | (go_at_call 73; refine (Empty_c _).mono ?_; rintro e w2 ⟨B, rfl, hB, hr, hb2⟩))
  obtain ⟨O, hO⟩ : ∃ O, O = w2.heap.size := ⟨_, rfl⟩
  have hBO : B < O := by have := hr.lt; omega
  have hwB : w.heap.size + 1 + 1 + 1 ≤ B := by omega
  refine wp_name (fun V => V.cell? ⟨w.heap.size, 0, none⟩ = some (.slice (some ⟨b1, o1, none⟩) 24 c1) ∧ V.cell? ⟨w.heap.size + 1, 0, none⟩ = some (.slice (some ⟨b2, o2, none⟩) 24 c2) ∧ BoxAt V (w.heap.size + 1 + 1) 0 (.slice none 0 0) ∧ Fill w O B Globe.zeroL V) ⟨?_, ?_, ?_, ?_⟩ ?_
  · (repeat' (first | (with_reducible assumption) | (simp [go_sem]; done) | (with_reducible refine Ext.cell (Ext.alloc (Ext.refl _) _) ?_) | (with_reducible refine Ext.cell (by with_reducible assumption) ?_)))
  · (repeat' (first | (with_reducible assumption) | (simp [go_sem]; done) | (with_reducible refine Ext.cell (Ext.alloc (Ext.refl _) _) ?_) | (with_reducible refine Ext.cell (by with_reducible assumption) ?_)))
  · (repeat' (first | (with_reducible assumption) | (exact ⟨by simp [go_sem], by simp [go_sem]⟩) | (with_reducible refine BoxAt.ext (Ext.alloc (Ext.refl _) _) ?_) | (with_reducible refine BoxAt.ext (by with_reducible assumption) ?_)))
  · exact ⟨hr.ext (by (repeat' (first | (with_reducible assumption) | (with_reducible exact Ext.refl _) | (with_reducible refine Ext.alloc ?_ _) | (with_reducible refine Ext.drew ?_) | (with_reducible refine Ext.drewN ?_ _) | (with_reducible refine Ext.setCell ?_ ?_ _) | (with_reducible refine Ext.trans ?_ (by assumption)) | go_size))), by rw [hO]; simp [go_sem], by (repeat' (first | (with_reducible assumption) | (with_reducible exact Ext.refl _) | (with_reducible refine Ext.alloc ?_ _) | (with_reducible refine Ext.drew ?_) | (with_reducible refine Ext.drewN ?_ _) | (with_reducible refine Ext.setCell ?_ ?_ _) | (with_reducible refine Ext.trans ?_ (by assumption)) | go_size))⟩
  rintro V ⟨c3, c4, c6, hF⟩
  rw [← hO]
  clear hO hr hb2 hB
  iterate 2 clear hc hf hz ha hb
  rw [← Globe.partL_zero (Globe.shiftL l1 k)] at hF
  have hL : (Globe.shiftL l1 k).length = 24 := Globe.rowsF_len _
  have HL := Lib.hid hL; clear hL
  go_loopw [23] (fun p wr => ∃ y : Nat, y ≤ 24 ∧ p = .int .i64 y ∧ wr.cell? ⟨w.heap.size, 0, none⟩ = some (.slice (some ⟨b1, o1, none⟩) 24 c1) ∧ wr.cell? ⟨w.heap.size + 1, 0, none⟩ = some (.slice (some ⟨b2, o2, none⟩) 24 c2) ∧ BoxAt wr (w.heap.size + 1 + 1) 0 (.slice none 0 0) ∧ Fill w O B (Globe.partL (Globe.shiftL l1 k) y) wr) (fun p _ => 24 - (intOf p).toNat)
  case atStart => exact ⟨0, by omega, rfl, c3, c4, c6, hF⟩
  case round =>
    clear c3 c4 c6 hF
    obtain ⟨y, hy, rfl, c3, c4, c6, hr, cO, hE⟩ := hrel
    have hOl := World.block_lt_of_cell? wr _ cO
    by_cases hlt : y < 24
    · have hp := Globe.rowN_lt Hv1.out y
      have hq := Globe.rowN_lt Hv2.out y
      have d1 : wr.cell? ⟨b1, o1 + y, none⟩ = some (.int .i64 (Globe.rowN l1 y : Nat)) := by rw [← Globe.rowN_cast Hv1.out]; exact hE.cell (H1.out y hlt)
      have d2 : wr.cell? ⟨b2, o2 + y, none⟩ = some (.int .i64 (Globe.rowN l2 y : Nat)) := by rw [← Globe.rowN_cast Hv2.out]; exact hE.cell (H2.out y hlt)
      have dk : wr.cell? ⟨K, 0, none⟩ = some (.int .i64 (k : Int)) := hE.cell Hk.out
      have d3 := hr.cell hlt
      have hb1 := IntsAt.lt H1.out
      have hb2 := IntsAt.lt H2.out
      have d4 := hr.free hlt
      have y0 : (0 : Int) ≤ (y : Int) := by omega
      have y1 : (y : Int) < 24 := by omega
      go_wp2_with fail
      go_region_held3 (fun w' => w'.cell? ⟨w.heap.size, 0, none⟩ = some (.slice (some ⟨b1, o1, none⟩) 24 c1) ∧ w'.cell? ⟨w.heap.size + 1, 0, none⟩ = some (.slice (some ⟨b2, o2, none⟩) 24 c2) ∧ w'.cell? ⟨O, 0, none⟩ = some (.slice (some ⟨B, 0, none⟩) 24 24) ∧ w'.cell? ⟨b1, o1 + y, none⟩ = some (.int .i64 (Globe.rowN l1 y : Nat)) ∧ w'.cell? ⟨b2, o2 + y, none⟩ = some (.int .i64 (Globe.rowN l2 y : Nat)) ∧ w'.cell? ⟨K, 0, none⟩ = some (.int .i64 (k : Int)))
        (first | ((repeat' (with_reducible apply And.intro)) <;> (first | (with_reducible assumption) | (simp [go_sem, c3, c4, cO, d1, d2, dk]; done))))
        ((go_at_call 61; refine (Shifted1_c _ _ _ _ _ hk hp (And.right (And.right (And.right (And.right (And.right (by with_reducible assumption)))))) ).mono ?_; rintro e w' ⟨rfl, n, rfl⟩))
      go_wp2
      go_roundw
      case rel =>
        refine ⟨y + 1, by omega, by go_num, by simpa [go_sem] using c3, by simpa [go_sem] using c4, (c6.other (p := ⟨B, y, none⟩) (by show B ≠ _; omega) _).drew, ?_, by simpa [go_sem] using cO, by (repeat' (first | (with_reducible assumption) | (with_reducible exact Ext.refl _) | (with_reducible refine Ext.alloc ?_ _) | (with_reducible refine Ext.drew ?_) | (with_reducible refine Ext.drewN ?_ _) | (with_reducible refine Ext.setCell ?_ ?_ _) | (with_reducible refine Ext.trans ?_ (by assumption)) | go_size))⟩
        have := (hr.set hlt (Globe.nth (Globe.shiftL l1 k) y)).drew
        rwa [Globe.partL_succ HL.out hlt, show Globe.nth (Globe.shiftL l1 k) y = _ from Globe.nth_rowsF _ hlt] at this
      case measure => simp [intOf]; omega
    · obtain rfl : y = 24 := by omega
      rw [Globe.partL_all HL.out] at hr
      obtain ⟨c6, f6⟩ := c6
      go_wp2_with fail
      refine bodyPost_ret (v := .tuple #[.agg #[.slice (some ⟨B, 0, none⟩) 24 24], .int .i64 0]) (by simp [results, Tryd.results56, go_sem, c6]) rfl ⟨B, rfl, by omega, hr.other (by show w.heap.size + 1 + 1 ≠ _; omega) _, by (repeat' (first | (with_reducible assumption) | (with_reducible exact Ext.refl _) | (with_reducible refine Ext.alloc ?_ _) | (with_reducible refine Ext.drew ?_) | (with_reducible refine Ext.drewN ?_ _) | (with_reducible refine Ext.setCell ?_ ?_ _) | (with_reducible refine Ext.trans ?_ (by assumption)) | go_size))⟩

end Go.Proofs.YtglfoglkdbbmmaaDoor
