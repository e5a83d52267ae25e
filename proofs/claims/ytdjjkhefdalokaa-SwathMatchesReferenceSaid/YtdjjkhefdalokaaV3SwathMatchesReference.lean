/- Part 3 of what the proof of SwathMatchesReference stands on. -/
import Derived.Test.YtdjjkhefdalokaaV2SwathMatchesReference
/- Contracts of package globe: mixed. -/
namespace Go.Proofs.Ytdjjkhefdalokaa
open Go.RowKit

theorem Valid_n (a : Option Addr) (l : List Int) (n c : Nat) (w : World) (h : IntsAt w a l) (hn : l.length = n) (hl : n ≤ 140737488355328) :
  Calls Try.prog 33 #[.agg #[.slice a n c]] w fun e w' => e = .returned (.bool (Globe.validL l)) ∧ Ext w w' := by
 subst hn
 exact Valid_c a l c w h hl
theorem Valid_v {v : Bool} (a : Option Addr) (l : List Int) (n c : Nat) (w : World) (h : IntsAt w a l) (hn : l.length = n) (hl : n ≤ 140737488355328) (hv : Globe.validL l = v) :
  Calls Try.prog 33 #[.agg #[.slice a n c]] w fun e w' => e = .returned (.bool v) ∧ Ext w w' := hv ▸ Valid_n a l n c w h hn hl
theorem Valid_y (b o c : Nat) (l : List Int) (w : World) (h : ∀ i, i < 24 → w.cell? ⟨b, o + i, none⟩ = some (.int .i64 (Globe.nth l i))) (hv : Globe.validL l = true) :
  Calls Try.prog 33 #[.agg #[.slice (some ⟨b, o, none⟩) 24 c]] w fun e w' => e = .returned (.bool true) ∧ Ext w w' := by
 have hn := Globe.len_of_valid hv
 have := Valid_n (some ⟨b, o, none⟩) l 24 c w (.inr ⟨b, o, rfl, fun i hi => h i (by omega)⟩) hn (by omega)
 rwa [hv] at this

theorem Valid_e {v : Bool} {w0 : World} {a : Option Addr} {l : List Int} {n : Nat} (c : Nat) (w : World) (h : AA w0 a l n v) (hE : Ext w0 w) :
  Calls Try.prog 33 #[.agg #[.slice a n c]] w fun e w' => e = .returned (.bool v) ∧ Ext w w' :=
 Valid_v a l n c w (h.1.ext hE) h.2.1 h.2.2.1 h.2.2.2

/-- In the midst of the loop that fills the rows of an area of one's own (block B, its box at O). -/
def Fill (w : World) (O B : Nat) (L : List Int) (wr : World) : Prop := RowsAt wr B L ∧ wr.cell? ⟨O, 0, none⟩ = some (.slice (some ⟨B, 0, none⟩) 24 24) ∧ Ext w wr

set_option maxHeartbeats 2000000 in
theorem mixed_Less (b1 o1 c1 b2 o2 c2 : Nat) (l1 l2 : List Int) (w : World) (h1 : ∀ i, i < 24 → w.cell? ⟨b1, o1 + i, none⟩ = some (.int .i64 (Globe.nth l1 i))) (h2 : ∀ i, i < 24 → w.cell? ⟨b2, o2 + i, none⟩ = some (.int .i64 (Globe.nth l2 i)))
    (hv1 : Globe.validL l1 = true) (hv2 : Globe.validL l2 = true) :
    Calls Try.prog 70 #[.agg #[.slice (some ⟨b1, o1, none⟩) 24 c1], .agg #[.slice (some ⟨b2, o2, none⟩) 24 c2], .func (.func 96) #[] #[]] w (RetAE w (Globe.lessL l1 l2)) := by
  have H1 := Lib.hid h1; clear h1
  have H2 := Lib.hid h2; clear h2
  have Hv1 := Lib.hid hv1; clear hv1
  have Hv2 := Lib.hid hv2; clear hv2
  go_enter Try.func70, Try.ntmps70
  go_wp2_with (first | (go_at_call 33; refine (Valid_y _ _ _ _ _ (fun i hi => Ext.cell (show Ext w _ by (repeat' (first | (with_reducible assumption) | (with_reducible exact Ext.refl _) | (with_reducible refine Ext.alloc ?_ _) | (with_reducible refine Ext.drew ?_) | (with_reducible refine Ext.drewN ?_ _) | (with_reducible refine Ext.setCell ?_ ?_ _) | (with_reducible refine Ext.trans ?_ (by assumption)) | go_size))) (by first | exact H1.out i hi | exact H2.out i hi)) (by first | exact Hv1.out | exact Hv2.out)).mono ?_; rintro e w1 ⟨rfl, hb⟩; have hc := hb.cellE; have hf := hb.frozenE; have hz := hb.size; have ha := alloc_keeps w1; (try simp only [World.size_alloc] at hc hf hz); (try simp only [World.size_setCell] at hc hf hz); (try simp only [World.size_drew] at hc hf hz)) | (go_at_call 34; refine (Empty_c _).mono ?_; rintro e w2 ⟨B, rfl, hB, hr, hb2⟩))
  obtain ⟨O, hO⟩ : ∃ O, O = w2.heap.size := ⟨_, rfl⟩
  have hBO : B < O := by have := hr.lt; omega
  have hwB : w.heap.size + 1 + 1 + 1 ≤ B := by omega
  refine wp_name (fun V => V.cell? ⟨w.heap.size, 0, none⟩ = some (.slice (some ⟨b1, o1, none⟩) 24 c1) ∧ V.cell? ⟨w.heap.size + 1, 0, none⟩ = some (.slice (some ⟨b2, o2, none⟩) 24 c2) ∧ BoxAt V (w.heap.size + 1 + 1) 0 (.slice none 0 0) ∧ Fill w O B Globe.zeroL V) ⟨?_, ?_, ?_, ?_⟩ ?_
  · (repeat' (first | (with_reducible assumption) | (simp [go_sem]; done) | (with_reducible refine Ext.cell (Ext.alloc (Ext.refl _) _) ?_) | (with_reducible refine Ext.cell (by with_reducible assumption) ?_)))
  · (repeat' (first | (with_reducible assumption) | (simp [go_sem]; done) | (with_reducible refine Ext.cell (Ext.alloc (Ext.refl _) _) ?_) | (with_reducible refine Ext.cell (by with_reducible assumption) ?_)))
  · (repeat' (first | (with_reducible assumption) | (exact ⟨by simp [go_sem], by simp [go_sem]⟩) | (with_reducible refine BoxAt.ext (Ext.alloc (Ext.refl _) _) ?_) | (with_reducible refine BoxAt.ext (by with_reducible assumption) ?_)))
  · exact ⟨hr.ext (by (repeat' (first | (with_reducible assumption) | (with_reducible exact Ext.refl _) | (with_reducible refine Ext.alloc ?_ _) | (with_reducible refine Ext.drew ?_) | (with_reducible refine Ext.drewN ?_ _) | (with_reducible refine Ext.setCell ?_ ?_ _) | (with_reducible refine Ext.trans ?_ (by assumption)) | go_size))), by rw [hO]; simp [go_sem], by (repeat' (first | (with_reducible assumption) | (with_reducible exact Ext.refl _) | (with_reducible refine Ext.alloc ?_ _) | (with_reducible refine Ext.drew ?_) | (with_reducible refine Ext.drewN ?_ _) | (with_reducible refine Ext.setCell ?_ ?_ _) | (with_reducible refine Ext.trans ?_ (by assumption)) | go_size))⟩
  rintro V ⟨c3, c4, c6, hF⟩
  rw [← hO]
  clear hO hr hb2 hB
  iterate 2 clear hc hf hz ha hb
  rw [← Globe.partL_zero (Globe.lessL l1 l2)] at hF
  have hL : (Globe.lessL l1 l2).length = 24 := Globe.rowsF_len _
  have HL := Lib.hid hL; clear hL
  go_loopw [23] (fun p wr => ∃ y : Nat, y ≤ 24 ∧ p = .int .i64 y ∧ wr.cell? ⟨w.heap.size, 0, none⟩ = some (.slice (some ⟨b1, o1, none⟩) 24 c1) ∧ wr.cell? ⟨w.heap.size + 1, 0, none⟩ = some (.slice (some ⟨b2, o2, none⟩) 24 c2) ∧ BoxAt wr (w.heap.size + 1 + 1) 0 (.slice none 0 0) ∧ Fill w O B (Globe.partL (Globe.lessL l1 l2) y) wr) (fun p _ => 24 - (intOf p).toNat)
  case atStart => exact ⟨0, by omega, rfl, c3, c4, c6, hF⟩
  case round =>
    clear c3 c4 c6 hF
    obtain ⟨y, hy, rfl, c3, c4, c6, hr, cO, hE⟩ := hrel
    have hOl := World.block_lt_of_cell? wr _ cO
    by_cases hlt : y < 24
    · have hp := Globe.rowN_lt Hv1.out y
      have hq := Globe.rowN_lt Hv2.out y
      have d1 : wr.cell? ⟨b1, o1 + y, none⟩ = some (.int .i64 (Globe.rowN l1 y : Nat)) := by rw [← Globe.rowN_cast Hv1.out]; exact hE.cell (H1.out y hlt)
      have d2 : wr.cell? ⟨b2, o2 + y, none⟩ = some (.int .i64 (Globe.rowN l2 y : Nat)) := by rw [← Globe.rowN_cast Hv2.out]; exact hE.cell (H2.out y hlt)
      have d3 := hr.cell hlt
      have hb1 := IntsAt.lt H1.out
      have hb2 := IntsAt.lt H2.out
      have d4 := hr.free hlt
      have y0 : (0 : Int) ≤ (y : Int) := by omega
      have y1 : (y : Int) < 24 := by omega
      go_wp2_with fail
      go_region_held3 (fun w' => w'.cell? ⟨w.heap.size, 0, none⟩ = some (.slice (some ⟨b1, o1, none⟩) 24 c1) ∧ w'.cell? ⟨w.heap.size + 1, 0, none⟩ = some (.slice (some ⟨b2, o2, none⟩) 24 c2) ∧ w'.cell? ⟨O, 0, none⟩ = some (.slice (some ⟨B, 0, none⟩) 24 24) ∧ w'.cell? ⟨b1, o1 + y, none⟩ = some (.int .i64 (Globe.rowN l1 y : Nat)) ∧ w'.cell? ⟨b2, o2 + y, none⟩ = some (.int .i64 (Globe.rowN l2 y : Nat)))
        (first | ((repeat' (with_reducible apply And.intro)) <;> (first | (with_reducible assumption) | (simp [go_sem, c3, c4, cO, d1, d2]; done))))
        ((go_at_call 96; refine (Less1_c _ _ _ hp hq).mono ?_; rintro e w' ⟨rfl, rfl⟩))
      go_wp2
      go_roundw
      case rel =>
        refine ⟨y + 1, by omega, by go_num, by simpa [go_sem] using c3, by simpa [go_sem] using c4, (c6.other (p := ⟨B, y, none⟩) (by show B ≠ _; omega) _).drew, ?_, by simpa [go_sem] using cO, by (repeat' (first | (with_reducible assumption) | (with_reducible exact Ext.refl _) | (with_reducible refine Ext.alloc ?_ _) | (with_reducible refine Ext.drew ?_) | (with_reducible refine Ext.drewN ?_ _) | (with_reducible refine Ext.setCell ?_ ?_ _) | (with_reducible refine Ext.trans ?_ (by assumption)) | go_size))⟩
        have := (hr.set hlt (Globe.nth (Globe.lessL l1 l2) y)).drew
        rwa [Globe.partL_succ HL.out hlt, show Globe.nth (Globe.lessL l1 l2) y = _ from Globe.nth_rowsF _ hlt] at this
      case measure => simp [intOf]; omega
    · obtain rfl : y = 24 := by omega
      rw [Globe.partL_all HL.out] at hr
      obtain ⟨c6, f6⟩ := c6
      go_wp2_with fail
      refine bodyPost_ret (v := .tuple #[.agg #[.slice (some ⟨B, 0, none⟩) 24 24], .int .i64 0]) (by simp [results, Try.results70, go_sem, c6]) rfl ⟨B, rfl, by omega, hr.other (by show w.heap.size + 1 + 1 ≠ _; omega) _, by (repeat' (first | (with_reducible assumption) | (with_reducible exact Ext.refl _) | (with_reducible refine Ext.alloc ?_ _) | (with_reducible refine Ext.drew ?_) | (with_reducible refine Ext.drewN ?_ _) | (with_reducible refine Ext.setCell ?_ ?_ _) | (with_reducible refine Ext.trans ?_ (by assumption)) | go_size))⟩

end Go.Proofs.Ytdjjkhefdalokaa

/- Contracts of package globe: Shifted's loop; what is no area. -/
namespace Go.Proofs.Ytdjjkhefdalokaa
open Go.RowKit

end Go.Proofs.Ytdjjkhefdalokaa

/- Contracts of package globe: Union, Meet, Less, Shifted. -/
namespace Go.Proofs.Ytdjjkhefdalokaa
open Go.RowKit

set_option maxHeartbeats 1000000 in
/-- Where one of two is no area, the third argument plays no part. -/
theorem mixed_no (fv : Value) (a1 : Option Addr) (l1 : List Int) (n1 c1 : Nat) (v1 : Bool) (a2 : Option Addr) (l2 : List Int) (n2 c2 : Nat) (v2 : Bool) (w : World) (h1 : AA w a1 l1 n1 v1) (h2 : AA w a2 l2 n2 v2) (hv : (v1 && v2) = false) :
  Calls Try.prog 70 #[.agg #[.slice a1 n1 c1], .agg #[.slice a2 n2 c2], fv] w (RetErr w 50) := by
 cases v1 <;> cases v2
 all_goals
  (try simp at hv)
  try
   clear hv
   go_enter Try.func70, Try.ntmps70
   go_wp2_with (go_at_call 33; refine (Valid_e _ _ (by assumption) (by (repeat' (first | (with_reducible assumption) | (with_reducible exact Ext.refl _) | (with_reducible refine Ext.alloc ?_ _) | (with_reducible refine Ext.drew ?_) | (with_reducible refine Ext.drewN ?_ _) | (with_reducible refine Ext.setCell ?_ ?_ _) | (with_reducible refine Ext.trans ?_ (by assumption)) | go_size)))).mono ?_; rintro e w1 ⟨rfl, hb⟩; have hc := hb.cellE; have hf := hb.frozenE; have hz := hb.size; have ha := alloc_keeps w1; (try simp only [World.size_alloc] at hc hf hz); (try simp only [World.size_setCell] at hc hf hz); (try simp only [World.size_drew] at hc hf hz))
   ((try simp only [Exit.inBlock, Exit.then]); refine bodyPost_ret (v := .tuple #[.agg #[.slice none 0 0], .int .i64 50]) (by simp [results, Try.results70, go_sem, *]) rfl ?_)
   exact ⟨rfl, by (repeat' (first | (with_reducible assumption) | (with_reducible exact Ext.refl _) | (with_reducible refine Ext.alloc ?_ _) | (with_reducible refine Ext.drew ?_) | (with_reducible refine Ext.drewN ?_ _) | (with_reducible refine Ext.setCell ?_ ?_ _) | (with_reducible refine Ext.trans ?_ (by assumption)) | go_size))⟩

set_option maxHeartbeats 1000000 in
theorem Less_v {w1 w2 : World} {b1 o1 b2 o2 : Nat} (c1 c2 : Nat) {l1 l2 : List Int} (w : World) (h1 : VA w1 b1 o1 l1) (e1 : Ext w1 w) (h2 : VA w2 b2 o2 l2) (e2 : Ext w2 w) :
  Calls Try.prog 72 #[.agg #[.slice (some ⟨b1, o1, none⟩) 24 c1], .agg #[.slice (some ⟨b2, o2, none⟩) 24 c2]] w (RetV w (Globe.lessL l1 l2)) := by
 have H1 := Lib.hid (h1.ext e1)
 have H2 := Lib.hid (h2.ext e2)
 have HV := Lib.hid (Globe.less_valid (b := l2) h1.2)
 clear e1 e2 h1 h2
 go_enter Try.func72, Try.ntmps72
 go_wp2_with (go_at_call 70; refine (mixed_Less _ _ _ _ _ _ l1 l2 _ (fun i hi => Ext.cell (by (repeat' (first | (with_reducible assumption) | (with_reducible exact Ext.refl _) | (with_reducible refine Ext.alloc ?_ _) | (with_reducible refine Ext.drew ?_) | (with_reducible refine Ext.drewN ?_ _) | (with_reducible refine Ext.setCell ?_ ?_ _) | (with_reducible refine Ext.trans ?_ (by assumption)) | go_size))) (H1.out.1 i hi)) (fun i hi => Ext.cell (by (repeat' (first | (with_reducible assumption) | (with_reducible exact Ext.refl _) | (with_reducible refine Ext.alloc ?_ _) | (with_reducible refine Ext.drew ?_) | (with_reducible refine Ext.drewN ?_ _) | (with_reducible refine Ext.setCell ?_ ?_ _) | (with_reducible refine Ext.trans ?_ (by assumption)) | go_size))) (H2.out.1 i hi)) H1.out.2 H2.out.2).mono ?_; rintro e w1 ⟨B, rfl, hB, hr, hb⟩; have hc := hb.cellE; have hf := hb.frozenE; have hz := hb.size; have ha := alloc_keeps w1; (try simp only [World.size_alloc] at hc hf hz); (try simp only [World.size_setCell] at hc hf hz); (try simp only [World.size_drew] at hc hf hz))
 ((try simp only [Exit.inBlock, Exit.then]); refine bodyPost_ret (v := .tuple #[.agg #[.slice (some ⟨B, 0, none⟩) 24 24], .int .i64 0]) (by simp [results, Try.results72, go_sem, hc]) rfl ?_)
 refine RetAE.v ⟨B, rfl, by first | (simp at hB; omega) | omega, hr.other (by show w.heap.size + 1 + 1 ≠ B; (try simp at hB); omega) _, by (repeat' (first | (with_reducible assumption) | (with_reducible exact Ext.refl _) | (with_reducible refine Ext.alloc ?_ _) | (with_reducible refine Ext.drew ?_) | (with_reducible refine Ext.drewN ?_ _) | (with_reducible refine Ext.setCell ?_ ?_ _) | (with_reducible refine Ext.trans ?_ (by assumption)) | go_size))⟩ HV.out
set_option maxHeartbeats 1000000 in
theorem Less_n (a1 : Option Addr) (l1 : List Int) (n1 c1 : Nat) (v1 : Bool) (a2 : Option Addr) (l2 : List Int) (n2 c2 : Nat) (v2 : Bool) (w : World) (h1 : AA w a1 l1 n1 v1) (h2 : AA w a2 l2 n2 v2) (hv : (v1 && v2) = false) :
  Calls Try.prog 72 #[.agg #[.slice a1 n1 c1], .agg #[.slice a2 n2 c2]] w (RetErr w 50) := by
 go_enter Try.func72, Try.ntmps72
 go_wp2_with (go_at_call 70; refine (mixed_no _ _ l1 _ _ v1 _ l2 _ _ v2 _ (h1.ext (by (repeat' (first | (with_reducible assumption) | (with_reducible exact Ext.refl _) | (with_reducible refine Ext.alloc ?_ _) | (with_reducible refine Ext.drew ?_) | (with_reducible refine Ext.drewN ?_ _) | (with_reducible refine Ext.setCell ?_ ?_ _) | (with_reducible refine Ext.trans ?_ (by assumption)) | go_size)))) (h2.ext (by (repeat' (first | (with_reducible assumption) | (with_reducible exact Ext.refl _) | (with_reducible refine Ext.alloc ?_ _) | (with_reducible refine Ext.drew ?_) | (with_reducible refine Ext.drewN ?_ _) | (with_reducible refine Ext.setCell ?_ ?_ _) | (with_reducible refine Ext.trans ?_ (by assumption)) | go_size)))) hv).mono ?_; rintro e w1 ⟨rfl, hb⟩; have hc := hb.cellE; have hf := hb.frozenE; have hz := hb.size; have ha := alloc_keeps w1; (try simp only [World.size_alloc] at hc hf hz); (try simp only [World.size_setCell] at hc hf hz); (try simp only [World.size_drew] at hc hf hz))
 ((try simp only [Exit.inBlock, Exit.then]); refine bodyPost_ret (v := .tuple #[.agg #[.slice none 0 0], .int .i64 50]) (by simp [results, Try.results72, go_sem, hc]) rfl ?_)
 exact ⟨rfl, by (repeat' (first | (with_reducible assumption) | (with_reducible exact Ext.refl _) | (with_reducible refine Ext.alloc ?_ _) | (with_reducible refine Ext.drew ?_) | (with_reducible refine Ext.drewN ?_ _) | (with_reducible refine Ext.setCell ?_ ?_ _) | (with_reducible refine Ext.trans ?_ (by assumption)) | go_size))⟩
/-- By how many columns, within a turn. -/
def modN (k : Int) : Nat := (k % 48).toNat
theorem modN_lt (k : Int) : modN k < 48 := by unfold modN; omega
theorem modN_go (k : Int) : k.tmod 48 % 48 = (modN k : Int) ∧ -47 ≤ k.tmod 48 ∧ k.tmod 48 ≤ 47 := by
  unfold modN
  by_cases h : 0 ≤ k
  · rw [Int.tmod_eq_emod_of_nonneg h]; omega
  · obtain ⟨m, rfl⟩ : ∃ m : Int, k = -m := ⟨-k, by omega⟩
    rw [Int.neg_tmod, Int.tmod_eq_emod_of_nonneg (by omega)]; omega

end Go.Proofs.Ytdjjkhefdalokaa

/- Contracts of package globe: Contains. -/
namespace Go.Proofs.Ytdjjkhefdalokaa
open Go.RowKit

theorem arrayAt_c (B k : Nat) (w : World) : (Instr.arrayAt 104 (.slice (some ⟨B, 0, none⟩) 24 k)).run Try.prog w = .ok (.pointer (some ⟨B, 0, none⟩)) w := by kernel_rfl
theorem eql24 {L : List Int} (hL : L.length = 24) (w : World) : (Op.equalIn 10000 104 (.agg (intVals L).toArray) (.agg #[.int .i64 0, .int .i64 0, .int .i64 0, .int .i64 0, .int .i64 0, .int .i64 0, .int .i64 0, .int .i64 0, .int .i64 0, .int .i64 0, .int .i64 0, .int .i64 0, .int .i64 0, .int .i64 0, .int .i64 0, .int .i64 0, .int .i64 0, .int .i64 0, .int .i64 0, .int .i64 0, .int .i64 0, .int .i64 0, .int .i64 0, .int .i64 0])).run Try.prog w = .ok (decide (L = Globe.zeroL)) w :=
 equalIn_rows (P := Try.prog) 104 3 Try.underlying104 (by kernel_rfl) (by kernel_rfl) (by kernel_rfl) Try.underlying3 L hL w
theorem size24 {L : List Int} (hL : L.length = 24) : (Try.prog.info? 104).map (·.size) = some (intVals L).length := by rw [show (intVals L).length = 24 by simp [intVals, hL]]; kernel_rfl

set_option maxHeartbeats 1000000 in
theorem Contains_v {w1 w2 : World} {b1 o1 b2 o2 : Nat} (c1 c2 : Nat) {l1 l2 : List Int} (w : World) (h1 : VA w1 b1 o1 l1) (e1 : Ext w1 w) (h2 : VA w2 b2 o2 l2) (e2 : Ext w2 w) :
  Calls Try.prog 31 #[.agg #[.slice (some ⟨b1, o1, none⟩) 24 c1], .agg #[.slice (some ⟨b2, o2, none⟩) 24 c2]] w fun e w' => e = .returned (.bool (Globe.containsB l1 l2)) ∧ Ext w w' := by
 replace h1 := h1.ext e1; replace h2 := h2.ext e2; clear e1 e2
 have hr : Globe.containsB l1 l2 = decide (Globe.lessL l2 l1 = Globe.zeroL) := by rw [Globe.containsB, h1.2, h2.2]; rfl
 have Hr := Lib.hid hr; clear hr
 have ha1 := arrayAt_c
 have hL : (Globe.lessL l2 l1).length = 24 := Globe.rowsF_len _
 have heq := @eql24 (Globe.lessL l2 l1) hL
 have HL := Lib.hid hL; clear hL
 go_enter Try.func31, Try.ntmps31
 go_wp2_with (first | (go_at_call 72; refine (Less_v _ _ _ h2 (by (repeat' (first | (with_reducible assumption) | (with_reducible exact Ext.refl _) | (with_reducible refine Ext.alloc ?_ _) | (with_reducible refine Ext.drew ?_) | (with_reducible refine Ext.drewN ?_ _) | (with_reducible refine Ext.setCell ?_ ?_ _) | (with_reducible refine Ext.trans ?_ (by assumption)) | go_size))) h1 (by (repeat' (first | (with_reducible assumption) | (with_reducible exact Ext.refl _) | (with_reducible refine Ext.alloc ?_ _) | (with_reducible refine Ext.drew ?_) | (with_reducible refine Ext.drewN ?_ _) | (with_reducible refine Ext.setCell ?_ ?_ _) | (with_reducible refine Ext.trans ?_ (by assumption)) | go_size)))).mono ?_; rintro e w1 ⟨B, k, rfl, hB, hr, hv, hb⟩; have hc := hb.cellE; have hf := hb.frozenE; have hz := hb.size; have ha := alloc_keeps w1; (try simp only [World.size_alloc] at hc hf hz); (try simp only [World.size_setCell] at hc hf hz); (try simp only [World.size_drew] at hc hf hz); have hrg := (hr.ext (Ext.alloc (Ext.refl _) (.cells #[.slice (some ⟨B, 0, none⟩) 24 k] 31))).range; clear hr hv) | (refine wpList_load_g (op := ⟨some 19, Op.load 104 (Operand.tmp 18), _, _, _, _⟩) (by kernel_rfl) 104 (Operand.tmp 18) rfl _ 0 rfl _ (.array 24 3) hrg Try.underlying104 rfl (size24 HL.out) ?_))
 go_ret
 exact ⟨ret_bool Hr.out.symm, by (repeat' (first | (with_reducible assumption) | (with_reducible exact Ext.refl _) | (with_reducible refine Ext.alloc ?_ _) | (with_reducible refine Ext.drew ?_) | (with_reducible refine Ext.drewN ?_ _) | (with_reducible refine Ext.setCell ?_ ?_ _) | (with_reducible refine Ext.trans ?_ (by assumption)) | go_size))⟩
set_option maxHeartbeats 1000000 in
theorem Contains_n (a1 : Option Addr) (l1 : List Int) (n1 c1 : Nat) (v1 : Bool) (a2 : Option Addr) (l2 : List Int) (n2 c2 : Nat) (v2 : Bool) (w : World) (h1 : AA w a1 l1 n1 v1) (h2 : AA w a2 l2 n2 v2) (hv : (v1 && v2) = false) :
  Calls Try.prog 31 #[.agg #[.slice a1 n1 c1], .agg #[.slice a2 n2 c2]] w fun e w' => e = .returned (.bool false) ∧ Ext w w' := by
 have hv' : (v2 && v1) = false := by rw [Bool.and_comm]; exact hv
 clear hv
 go_enter Try.func31, Try.ntmps31
 go_wp2_with (go_at_call 72; refine (Less_n _ l2 _ _ v2 _ l1 _ _ v1 _ (h2.ext (by (repeat' (first | (with_reducible assumption) | (with_reducible exact Ext.refl _) | (with_reducible refine Ext.alloc ?_ _) | (with_reducible refine Ext.drew ?_) | (with_reducible refine Ext.drewN ?_ _) | (with_reducible refine Ext.setCell ?_ ?_ _) | (with_reducible refine Ext.trans ?_ (by assumption)) | go_size)))) (h1.ext (by (repeat' (first | (with_reducible assumption) | (with_reducible exact Ext.refl _) | (with_reducible refine Ext.alloc ?_ _) | (with_reducible refine Ext.drew ?_) | (with_reducible refine Ext.drewN ?_ _) | (with_reducible refine Ext.setCell ?_ ?_ _) | (with_reducible refine Ext.trans ?_ (by assumption)) | go_size)))) hv').mono ?_; rintro e w1 ⟨rfl, hb⟩; have hc := hb.cellE; have hf := hb.frozenE; have hz := hb.size; have ha := alloc_keeps w1; (try simp only [World.size_alloc] at hc hf hz); (try simp only [World.size_setCell] at hc hf hz); (try simp only [World.size_drew] at hc hf hz))
 go_ret
 exact ⟨rfl, by (repeat' (first | (with_reducible assumption) | (with_reducible exact Ext.refl _) | (with_reducible refine Ext.alloc ?_ _) | (with_reducible refine Ext.drew ?_) | (with_reducible refine Ext.drewN ?_ _) | (with_reducible refine Ext.setCell ?_ ?_ _) | (with_reducible refine Ext.trans ?_ (by assumption)) | go_size))⟩
theorem Contains_c {w1 w2 : World} {a1 : Option Addr} {l1 : List Int} {n1 : Nat} (c1 : Nat) {v1 : Bool} {a2 : Option Addr} {l2 : List Int} {n2 : Nat} (c2 : Nat) {v2 : Bool} (w : World) (h1 : AA w1 a1 l1 n1 v1) (e1 : Ext w1 w) (h2 : AA w2 a2 l2 n2 v2) (e2 : Ext w2 w) :
    Calls Try.prog 31 #[.agg #[.slice a1 n1 c1], .agg #[.slice a2 n2 c2]] w fun e w' => e = .returned (.bool (Globe.containsB l1 l2)) ∧ Ext w w' := by
  replace h1 := h1.ext e1; replace h2 := h2.ext e2
  cases hq : (v1 && v2)
  · have hr : Globe.containsB l1 l2 = false := by rw [Globe.containsB, h1.2.2.2, h2.2.2.2, hq]; rfl
    rw [hr]
    exact Contains_n a1 l1 n1 c1 v1 a2 l2 n2 c2 v2 w h1 h2 hq
  · obtain ⟨rfl, rfl⟩ := Bool.and_eq_true_iff.1 hq
    obtain ⟨b1, o1, rfl, rfl, r1⟩ := h1.va
    obtain ⟨b2, o2, rfl, rfl, r2⟩ := h2.va
    exact Contains_v c1 c2 w r1 (Ext.refl _) r2 (Ext.refl _)

end Go.Proofs.Ytdjjkhefdalokaa

/- Contracts of package swath: Strip, Shown, Shows. -/
namespace Go.Proofs.Ytdjjkhefdalokaa
open Go.RowKit

/-- A new strip of one's own, and no error. -/
def RetSE (w : World) (L1 L2 : List Int) (e : Ending) (w' : World) : Prop :=
 ∃ B g c1 c2 : Nat, e = .returned (.tuple #[.agg #[.slice (some ⟨B, 0, none⟩) 24 c1, .slice (some ⟨g, 0, none⟩) 24 c2], .int .i64 0]) ∧ w.heap.size ≤ B ∧ w.heap.size ≤ g ∧ B ≠ g ∧ RowsAt w' B L1 ∧ RowsAt w' g L2 ∧ Ext w w'
def RetSN (w : World) (e : Ending) (w' : World) : Prop := e = .returned (.tuple #[.agg #[.slice none 0 0, .slice none 0 0], .int .i64 80]) ∧ Ext w w'
/-- May an exposure be asked for, with a delay? -/
def shdB (o : Orb) (s : Int × Int) (lk d : Int) : Bool := Swath.shB o s lk && Globe.inB d (-o.sl) o.sl
set_option maxRecDepth 1000000 in
set_option maxHeartbeats 4000000 in
theorem Strip_y {o : Orb} {s : Int × Int} {lk : Int} (w : World) (hv : Swath.shB o s lk = true) : Calls Try.prog 17 #[.agg #[.int .i64 o.p, .int .i64 o.f, .int .i64 o.lo, .int .i64 o.hi, .int .i64 o.nd, .int .i64 o.tn, .int .i64 o.sl], .agg #[.int .i64 s.1, .int .i64 s.2], .int .i64 lk] w (RetSE w (Swath.sureL o s lk) (Swath.canL o s lk)) := by
 refine calls_cw 21 [(2, .int .i64 lk), (1, .agg #[.int .i64 s.1, .int .i64 s.2]), (0, .agg #[.int .i64 o.p, .int .i64 o.f, .int .i64 o.lo, .int .i64 o.hi, .int .i64 o.nd, .int .i64 o.tn, .int .i64 o.sl])] Try.func17 rfl Try.ntmps17 (by kernel_rfl) (by kernel_rfl) (fun L => ?_)
 have hE : Ext w w := Ext.refl w
 refine cw_seq ?_; refine cw_plain ?_
 refine pS (sn_new (us := #[.int .i64 o.p, .int .i64 o.f, .int .i64 o.lo, .int .i64 o.hi, .int .i64 o.nd, .int .i64 o.tn, .int .i64 o.sl]) (t := 24) (by kernel_rfl) ?_)
 intro O1 X2 hzO1 hyO1 hb hbx; have ⟨bO1_0, bO1_1, bO1_2, bO1_3, bO1_4, bO1_5, bO1_6⟩ := bx7 hbx; clear hbx
 replace hE := hE.trans hb; have hs3 := hb.size; clear hb; have lt4 := bO1_0.lt
 refine pS (sn_new (us := #[.int .i64 s.1, .int .i64 s.2]) (t := 26) (by kernel_rfl) ?_)
 intro O5 X6 hzO5 hyO5 hb hbx; have ⟨bO5_0, bO5_1⟩ := bx2 hbx; clear hbx
 replace hE := hE.trans hb; replace bO1_0 := BoxAt.ext hb bO1_0; replace bO1_1 := BoxAt.ext hb bO1_1; replace bO1_2 := BoxAt.ext hb bO1_2; replace bO1_3 := BoxAt.ext hb bO1_3; replace bO1_4 := BoxAt.ext hb bO1_4; replace bO1_5 := BoxAt.ext hb bO1_5; replace bO1_6 := BoxAt.ext hb bO1_6; have hs7 := hb.size; clear hb; have lt8 := bO5_0.lt
 refine pS (sn_new (us := #[.int .i64 lk]) (t := 3) (by kernel_rfl) ?_)
 intro O9 X10 hzO9 hyO9 hb hbx; have bO9_0 := bx1 hbx; clear hbx
 replace hE := hE.trans hb; replace bO1_0 := BoxAt.ext hb bO1_0; replace bO1_1 := BoxAt.ext hb bO1_1; replace bO1_2 := BoxAt.ext hb bO1_2; replace bO1_3 := BoxAt.ext hb bO1_3; replace bO1_4 := BoxAt.ext hb bO1_4; replace bO1_5 := BoxAt.ext hb bO1_5; replace bO1_6 := BoxAt.ext hb bO1_6; replace bO5_0 := BoxAt.ext hb bO5_0; replace bO5_1 := BoxAt.ext hb bO5_1; have hs11 := hb.size; clear hb; have lt12 := bO9_0.lt
 refine pS (sn_new (us := #[.slice none 0 0, .slice none 0 0]) (t := 44) (by kernel_rfl) ?_)
 intro O13 X14 hzO13 hyO13 hb hbx; have ⟨bO13_0, bO13_1⟩ := bx2 hbx; clear hbx
 replace hE := hE.trans hb; replace bO1_0 := BoxAt.ext hb bO1_0; replace bO1_1 := BoxAt.ext hb bO1_1; replace bO1_2 := BoxAt.ext hb bO1_2; replace bO1_3 := BoxAt.ext hb bO1_3; replace bO1_4 := BoxAt.ext hb bO1_4; replace bO1_5 := BoxAt.ext hb bO1_5; replace bO1_6 := BoxAt.ext hb bO1_6; replace bO5_0 := BoxAt.ext hb bO5_0; replace bO5_1 := BoxAt.ext hb bO5_1; replace bO9_0 := BoxAt.ext hb bO9_0; have hs15 := hb.size; clear hb; have lt16 := bO13_0.lt; refine pT (.int .i64 0) ?_; refine pl_nil ?_; refine qw_then ?_; refine cw_seq ?_; refine cw_seq ?_; have hX17 : Ext X14 X14 := Ext.refl _; refine cw_plain ?_
 refine pU (.agg #[.int .i64 o.p, .int .i64 o.f, .int .i64 o.lo, .int .i64 o.hi, .int .i64 o.nd, .int .i64 o.tn, .int .i64 o.sl]) (ex_load rfl (by kernel_rfl) (ld24 (bO1_0.1) (bO1_1.1) (bO1_2.1) (bO1_3.1) (bO1_4.1) (bO1_5.1) (bO1_6.1))) ?_
 refine pU (.agg #[.int .i64 s.1, .int .i64 s.2]) (ex_load rfl (by kernel_rfl) (ld26 (bO5_0.1) (bO5_1.1))) ?_
 refine pU (.int .i64 lk) (ex_load rfl (by kernel_rfl) (ld3 (bO9_0.1))) ?_
 refine pS (sn_call (f := 22) (args := #[.agg #[.int .i64 o.p, .int .i64 o.f, .int .i64 o.lo, .int .i64 o.hi, .int .i64 o.nd, .int .i64 o.tn, .int .i64 o.sl], .agg #[.int .i64 s.1, .int .i64 s.2], .int .i64 lk]) (by kernel_rfl) ((sValid_r (r := true) o s lk _ (hv)).mono ?_))
 rintro e w18 ⟨rfl, hb⟩
 replace hE := hE.trans hb; replace hX17 := hX17.trans hb; have hs19 := hb.size; clear hb
 refine ⟨_, rfl, ?_⟩
 refine pT (.bool false) ?_; refine pl_nil ?_; refine qw_then ?_
 refine cw_f (by kernel_rfl) ?_
 refine cw_skip ?_
 refine qw_then ?_; refine cw_seq ?_; refine cw_plain ?_; refine pT (.func (.func 46) #[] #[.pointer (some ⟨O1, 0, none⟩), .pointer (some ⟨O5, 0, none⟩), .pointer (some ⟨O9, 0, none⟩)]) ?_; refine pT (.func (.func 46) #[] #[.pointer (some ⟨O1, 0, none⟩), .pointer (some ⟨O5, 0, none⟩), .pointer (some ⟨O9, 0, none⟩)]) ?_; refine pl_nil ?_; refine qw_then ?_; refine cC3 3 6 8 (fun L => ?_); refine cw_seq ?_; refine cw_plain ?_; refine pT (.func (.func 47) #[] #[]) ?_; refine pl_nil ?_; refine qw_then ?_; refine cw_seq ?_; refine cw_plain ?_
 refine pU (.agg #[.int .i64 o.p, .int .i64 o.f, .int .i64 o.lo, .int .i64 o.hi, .int .i64 o.nd, .int .i64 o.tn, .int .i64 o.sl]) (ex_load rfl (by kernel_rfl) (ld24 ((BoxAt.ext hX17 bO1_0).1) ((BoxAt.ext hX17 bO1_1).1) ((BoxAt.ext hX17 bO1_2).1) ((BoxAt.ext hX17 bO1_3).1) ((BoxAt.ext hX17 bO1_4).1) ((BoxAt.ext hX17 bO1_5).1) ((BoxAt.ext hX17 bO1_6).1))) ?_
 refine pT (.func (.func 46) #[] #[.pointer (some ⟨O1, 0, none⟩), .pointer (some ⟨O5, 0, none⟩), .pointer (some ⟨O9, 0, none⟩)]) ?_; refine pT (.func (.func 47) #[] #[]) ?_
 refine pS (sn_call (f := 48) (args := #[.agg #[.int .i64 o.p, .int .i64 o.f, .int .i64 o.lo, .int .i64 o.hi, .int .i64 o.nd, .int .i64 o.tn, .int .i64 o.sl], .func (.func 46) #[] #[.pointer (some ⟨O1, 0, none⟩), .pointer (some ⟨O5, 0, none⟩), .pointer (some ⟨O9, 0, none⟩)], .func (.func 49) #[] #[], .func (.func 47) #[] #[]]) (by kernel_rfl) ((foldS_c _ ⟨⟨(BoxAt.ext hX17 bO1_0).1, (BoxAt.ext hX17 bO1_1).1, (BoxAt.ext hX17 bO1_2).1, (BoxAt.ext hX17 bO1_3).1, (BoxAt.ext hX17 bO1_4).1, (BoxAt.ext hX17 bO1_5).1, (BoxAt.ext hX17 bO1_6).1⟩, (BoxAt.ext hX17 bO5_0).1, (BoxAt.ext hX17 bO5_1).1, (BoxAt.ext hX17 bO9_0).1⟩ (Ext.refl _) hv).mono ?_))
 rintro e w29 ⟨B20, g21, k22, k23, rfl, hn24, hn25, hne26, hr27, hr28, hb⟩
 replace hE := hE.trans hb; replace hX17 := hX17.trans hb; have hs30 := hb.size; clear hb; have lt31 := hr27.lt; have lt32 := hr28.lt
 have hne26h := Lib.hid hne26
 refine ⟨_, rfl, ?_⟩
 have bO1_t34 := (BoxAt.ext hX17 bO1_0)
 have bO1_t35 := (BoxAt.ext hX17 bO1_1)
 have bO1_t36 := (BoxAt.ext hX17 bO1_2)
 have bO1_t37 := (BoxAt.ext hX17 bO1_3)
 have bO1_t38 := (BoxAt.ext hX17 bO1_4)
 have bO1_t39 := (BoxAt.ext hX17 bO1_5)
 have bO1_t40 := (BoxAt.ext hX17 bO1_6)
 have bO5_t41 := (BoxAt.ext hX17 bO5_0)
 have bO5_t42 := (BoxAt.ext hX17 bO5_1)
 have bO9_t43 := (BoxAt.ext hX17 bO9_0)
 have bO13_t44 := (BoxAt.ext hX17 bO13_0)
 have bO13_t45 := (BoxAt.ext hX17 bO13_1)
 refine pP (sn_set2 (O := O13) (j := 0) (v := .slice (some ⟨B20, 0, none⟩) 24 k22) (v' := .slice (some ⟨g21, 0, none⟩) 24 k23) (ex_store (p := .pointer (some ⟨O13, 0, none⟩)) (v := .agg #[.slice (some ⟨B20, 0, none⟩) 24 k22, .slice (some ⟨g21, 0, none⟩) 24 k23]) rfl (by kernel_rfl) (by kernel_rfl) (st44 bO13_t44.1 bO13_t44.2 bO13_t45.1 bO13_t45.2)) bO13_t44 bO13_t45 ?_)
 intro X33 ho hv0 hv1 hk; replace hE := ho.ext hE (T (T hs3 (T hs7 hs11)) (Nat.le_of_eq hzO13))
 have q9 := fun (j : Nat) (v : Value) (h : BoxAt _ O1 j v) => ho.box (Nat.ne_of_gt (Nat.lt_of_lt_of_le lt4 (T (T hs7 hs11) (Nat.le_of_eq hzO13)))) h
 replace bO1_t34 := q9 _ _ bO1_t34; replace bO1_t35 := q9 _ _ bO1_t35; replace bO1_t36 := q9 _ _ bO1_t36; replace bO1_t37 := q9 _ _ bO1_t37; replace bO1_t38 := q9 _ _ bO1_t38; replace bO1_t39 := q9 _ _ bO1_t39; replace bO1_t40 := q9 _ _ bO1_t40; clear q9
 have q9 := fun (j : Nat) (v : Value) (h : BoxAt _ O5 j v) => ho.box (Nat.ne_of_gt (Nat.lt_of_lt_of_le lt8 (T hs11 (Nat.le_of_eq hzO13)))) h
 replace bO5_t41 := q9 _ _ bO5_t41; replace bO5_t42 := q9 _ _ bO5_t42; clear q9; replace bO9_t43 := ho.box (Nat.ne_of_gt (Nat.lt_of_lt_of_le lt12 (Nat.le_of_eq hzO13))) bO9_t43; replace hr27 := ho.rows (Nat.ne_of_lt (Nat.lt_of_lt_of_le lt16 (T hs19 hn24))) hr27; replace hr28 := ho.rows (Nat.ne_of_lt (Nat.lt_of_lt_of_le lt16 (T hs19 hn25))) hr28; have hs46 : w29.heap.size ≤ X33.heap.size := Nat.le_of_eq ho.size.symm; clear ho hk bO13_t44 bO13_t45; have bO13_t44 := hv0; clear hv0; have bO13_t45 := hv1; clear hv1; refine pT (.int .i64 0) ?_; refine pl_nil ?_; refine qw_then ?_
 refine cw_ret ?_
 refine qw_ret [.agg #[.slice (some ⟨B20, 0, none⟩) 24 k22, .slice (some ⟨g21, 0, none⟩) 24 k23], .int .i64 0] rfl ⟨⟨_, by kernel_rfl, res_ld (ld44 (bO13_t44.1) (bO13_t45.1))⟩, (by kernel_rfl), trivial⟩ ?_
 exact ⟨B20, g21, _, _, rfl, (T (T hs3 (T hs7 (T hs11 (T hs15 hs19)))) hn24), (T (T hs3 (T hs7 (T hs11 (T hs15 hs19)))) hn25), hne26h.out, hr27, hr28, hE⟩
set_option maxRecDepth 1000000 in
set_option maxHeartbeats 4000000 in
theorem Strip_n {o : Orb} {s : Int × Int} {lk : Int} (w : World) (hv : Swath.shB o s lk = false) : Calls Try.prog 17 #[.agg #[.int .i64 o.p, .int .i64 o.f, .int .i64 o.lo, .int .i64 o.hi, .int .i64 o.nd, .int .i64 o.tn, .int .i64 o.sl], .agg #[.int .i64 s.1, .int .i64 s.2], .int .i64 lk] w (RetSN w) := by
 refine calls_cw 21 [(2, .int .i64 lk), (1, .agg #[.int .i64 s.1, .int .i64 s.2]), (0, .agg #[.int .i64 o.p, .int .i64 o.f, .int .i64 o.lo, .int .i64 o.hi, .int .i64 o.nd, .int .i64 o.tn, .int .i64 o.sl])] Try.func17 rfl Try.ntmps17 (by kernel_rfl) (by kernel_rfl) (fun L => ?_)
 have hE : Ext w w := Ext.refl w
 refine cw_seq ?_; refine cw_plain ?_
 refine pS (sn_new (us := #[.int .i64 o.p, .int .i64 o.f, .int .i64 o.lo, .int .i64 o.hi, .int .i64 o.nd, .int .i64 o.tn, .int .i64 o.sl]) (t := 24) (by kernel_rfl) ?_)
 intro O1 X2 hzO1 hyO1 hb hbx; have ⟨bO1_0, bO1_1, bO1_2, bO1_3, bO1_4, bO1_5, bO1_6⟩ := bx7 hbx; clear hbx
 replace hE := hE.trans hb; have hs3 := hb.size; clear hb; have lt4 := bO1_0.lt
 refine pS (sn_new (us := #[.int .i64 s.1, .int .i64 s.2]) (t := 26) (by kernel_rfl) ?_)
 intro O5 X6 hzO5 hyO5 hb hbx; have ⟨bO5_0, bO5_1⟩ := bx2 hbx; clear hbx
 replace hE := hE.trans hb; replace bO1_0 := BoxAt.ext hb bO1_0; replace bO1_1 := BoxAt.ext hb bO1_1; replace bO1_2 := BoxAt.ext hb bO1_2; replace bO1_3 := BoxAt.ext hb bO1_3; replace bO1_4 := BoxAt.ext hb bO1_4; replace bO1_5 := BoxAt.ext hb bO1_5; replace bO1_6 := BoxAt.ext hb bO1_6; have hs7 := hb.size; clear hb; have lt8 := bO5_0.lt
 refine pS (sn_new (us := #[.int .i64 lk]) (t := 3) (by kernel_rfl) ?_)
 intro O9 X10 hzO9 hyO9 hb hbx; have bO9_0 := bx1 hbx; clear hbx
 replace hE := hE.trans hb; replace bO1_0 := BoxAt.ext hb bO1_0; replace bO1_1 := BoxAt.ext hb bO1_1; replace bO1_2 := BoxAt.ext hb bO1_2; replace bO1_3 := BoxAt.ext hb bO1_3; replace bO1_4 := BoxAt.ext hb bO1_4; replace bO1_5 := BoxAt.ext hb bO1_5; replace bO1_6 := BoxAt.ext hb bO1_6; replace bO5_0 := BoxAt.ext hb bO5_0; replace bO5_1 := BoxAt.ext hb bO5_1; have hs11 := hb.size; clear hb; have lt12 := bO9_0.lt
 refine pS (sn_new (us := #[.slice none 0 0, .slice none 0 0]) (t := 44) (by kernel_rfl) ?_)
 intro O13 X14 hzO13 hyO13 hb hbx; have ⟨bO13_0, bO13_1⟩ := bx2 hbx; clear hbx
 replace hE := hE.trans hb; replace bO1_0 := BoxAt.ext hb bO1_0; replace bO1_1 := BoxAt.ext hb bO1_1; replace bO1_2 := BoxAt.ext hb bO1_2; replace bO1_3 := BoxAt.ext hb bO1_3; replace bO1_4 := BoxAt.ext hb bO1_4; replace bO1_5 := BoxAt.ext hb bO1_5; replace bO1_6 := BoxAt.ext hb bO1_6; replace bO5_0 := BoxAt.ext hb bO5_0; replace bO5_1 := BoxAt.ext hb bO5_1; replace bO9_0 := BoxAt.ext hb bO9_0; have hs15 := hb.size; clear hb; have lt16 := bO13_0.lt; refine pT (.int .i64 0) ?_; refine pl_nil ?_; refine qw_then ?_; refine cw_seq ?_; refine cw_seq ?_; have hX17 : Ext X14 X14 := Ext.refl _; refine cw_plain ?_
 refine pU (.agg #[.int .i64 o.p, .int .i64 o.f, .int .i64 o.lo, .int .i64 o.hi, .int .i64 o.nd, .int .i64 o.tn, .int .i64 o.sl]) (ex_load rfl (by kernel_rfl) (ld24 (bO1_0.1) (bO1_1.1) (bO1_2.1) (bO1_3.1) (bO1_4.1) (bO1_5.1) (bO1_6.1))) ?_
 refine pU (.agg #[.int .i64 s.1, .int .i64 s.2]) (ex_load rfl (by kernel_rfl) (ld26 (bO5_0.1) (bO5_1.1))) ?_
 refine pU (.int .i64 lk) (ex_load rfl (by kernel_rfl) (ld3 (bO9_0.1))) ?_
 refine pS (sn_call (f := 22) (args := #[.agg #[.int .i64 o.p, .int .i64 o.f, .int .i64 o.lo, .int .i64 o.hi, .int .i64 o.nd, .int .i64 o.tn, .int .i64 o.sl], .agg #[.int .i64 s.1, .int .i64 s.2], .int .i64 lk]) (by kernel_rfl) ((sValid_r (r := false) o s lk _ (hv)).mono ?_))
 rintro e w18 ⟨rfl, hb⟩
 replace hE := hE.trans hb; replace hX17 := hX17.trans hb; have hs19 := hb.size; clear hb
 refine ⟨_, rfl, ?_⟩
 refine pT (.bool true) ?_; refine pl_nil ?_; refine qw_then ?_
 refine cw_t (by kernel_rfl) ?_
 refine cw_seq ?_; refine cw_plain ?_; refine pT (.agg #[.slice none 0 0, .slice none 0 0]) ?_
 have bO1_t21 := (BoxAt.ext hX17 bO1_0)
 have bO1_t22 := (BoxAt.ext hX17 bO1_1)
 have bO1_t23 := (BoxAt.ext hX17 bO1_2)
 have bO1_t24 := (BoxAt.ext hX17 bO1_3)
 have bO1_t25 := (BoxAt.ext hX17 bO1_4)
 have bO1_t26 := (BoxAt.ext hX17 bO1_5)
 have bO1_t27 := (BoxAt.ext hX17 bO1_6)
 have bO5_t28 := (BoxAt.ext hX17 bO5_0)
 have bO5_t29 := (BoxAt.ext hX17 bO5_1)
 have bO9_t30 := (BoxAt.ext hX17 bO9_0)
 have bO13_t31 := (BoxAt.ext hX17 bO13_0)
 have bO13_t32 := (BoxAt.ext hX17 bO13_1)
 refine pP (sn_set2 (O := O13) (j := 0) (v := .slice none 0 0) (v' := .slice none 0 0) (ex_store (p := .pointer (some ⟨O13, 0, none⟩)) (v := .agg #[.slice none 0 0, .slice none 0 0]) rfl (by kernel_rfl) (by kernel_rfl) (st44 bO13_t31.1 bO13_t31.2 bO13_t32.1 bO13_t32.2)) bO13_t31 bO13_t32 ?_)
 intro X20 ho hv0 hv1 hk; replace hE := ho.ext hE (T (T hs3 (T hs7 hs11)) (Nat.le_of_eq hzO13))
 have q9 := fun (j : Nat) (v : Value) (h : BoxAt _ O1 j v) => ho.box (Nat.ne_of_gt (Nat.lt_of_lt_of_le lt4 (T (T hs7 hs11) (Nat.le_of_eq hzO13)))) h
 replace bO1_t21 := q9 _ _ bO1_t21; replace bO1_t22 := q9 _ _ bO1_t22; replace bO1_t23 := q9 _ _ bO1_t23; replace bO1_t24 := q9 _ _ bO1_t24; replace bO1_t25 := q9 _ _ bO1_t25; replace bO1_t26 := q9 _ _ bO1_t26; replace bO1_t27 := q9 _ _ bO1_t27; clear q9
 have q9 := fun (j : Nat) (v : Value) (h : BoxAt _ O5 j v) => ho.box (Nat.ne_of_gt (Nat.lt_of_lt_of_le lt8 (T hs11 (Nat.le_of_eq hzO13)))) h
 replace bO5_t28 := q9 _ _ bO5_t28; replace bO5_t29 := q9 _ _ bO5_t29; clear q9; replace bO9_t30 := ho.box (Nat.ne_of_gt (Nat.lt_of_lt_of_le lt12 (Nat.le_of_eq hzO13))) bO9_t30; have hs33 : w18.heap.size ≤ X20.heap.size := Nat.le_of_eq ho.size.symm; clear ho hk bO13_t31 bO13_t32; have bO13_t31 := hv0; clear hv0; have bO13_t32 := hv1; clear hv1; refine pT (.int .i64 80) ?_; refine pl_nil ?_; refine qw_then ?_
 refine cw_ret ?_
 refine qw_then_ret ?_
 refine qw_ret [.agg #[.slice none 0 0, .slice none 0 0], .int .i64 80] rfl ⟨⟨_, by kernel_rfl, res_ld (ld44 (bO13_t31.1) (bO13_t32.1))⟩, (by kernel_rfl), trivial⟩ ?_
 exact ⟨rfl, hE⟩
set_option maxRecDepth 1000000 in
set_option maxHeartbeats 4000000 in
theorem Shown_y {o : Orb} {s : Int × Int} {lk d : Int} (w : World) (hd8 : shdB o s lk d = true) : Calls Try.prog 14 #[.agg #[.int .i64 o.p, .int .i64 o.f, .int .i64 o.lo, .int .i64 o.hi, .int .i64 o.nd, .int .i64 o.tn, .int .i64 o.sl], .agg #[.int .i64 s.1, .int .i64 s.2], .int .i64 lk, .int .i64 d] w (RetAE w (Swath.showL o lk (s.1 - d) (s.2 - s.1).toNat)) := by
 obtain ⟨hv, hd9⟩ := Bool.and_eq_true_iff.1 hd8
 have hq0 := Orb.ok_t.1 (Swath.shB_t.1 hv).1
 refine calls_cw 31 [(3, .int .i64 d), (2, .int .i64 lk), (1, .agg #[.int .i64 s.1, .int .i64 s.2]), (0, .agg #[.int .i64 o.p, .int .i64 o.f, .int .i64 o.lo, .int .i64 o.hi, .int .i64 o.nd, .int .i64 o.tn, .int .i64 o.sl])] Try.func14 rfl Try.ntmps14 (by kernel_rfl) (by kernel_rfl) (fun L => ?_)
 have hE : Ext w w := Ext.refl w
 refine cw_seq ?_; refine cw_plain ?_
 refine pS (sn_new (us := #[.int .i64 o.p, .int .i64 o.f, .int .i64 o.lo, .int .i64 o.hi, .int .i64 o.nd, .int .i64 o.tn, .int .i64 o.sl]) (t := 24) (by kernel_rfl) ?_)
 intro O1 X2 hzO1 hyO1 hb hbx; have ⟨bO1_0, bO1_1, bO1_2, bO1_3, bO1_4, bO1_5, bO1_6⟩ := bx7 hbx; clear hbx
 replace hE := hE.trans hb; have hs3 := hb.size; clear hb; have lt4 := bO1_0.lt
 refine pS (sn_new (us := #[.int .i64 s.1, .int .i64 s.2]) (t := 26) (by kernel_rfl) ?_)
 intro O5 X6 hzO5 hyO5 hb hbx; have ⟨bO5_0, bO5_1⟩ := bx2 hbx; clear hbx
 replace hE := hE.trans hb; replace bO1_0 := BoxAt.ext hb bO1_0; replace bO1_1 := BoxAt.ext hb bO1_1; replace bO1_2 := BoxAt.ext hb bO1_2; replace bO1_3 := BoxAt.ext hb bO1_3; replace bO1_4 := BoxAt.ext hb bO1_4; replace bO1_5 := BoxAt.ext hb bO1_5; replace bO1_6 := BoxAt.ext hb bO1_6; have hs7 := hb.size; clear hb; have lt8 := bO5_0.lt
 refine pS (sn_new (us := #[.slice none 0 0]) (t := 31) (by kernel_rfl) ?_)
 intro O9 X10 hzO9 hyO9 hb hbx; have bO9_0 := bx1 hbx; clear hbx
 replace hE := hE.trans hb; replace bO1_0 := BoxAt.ext hb bO1_0; replace bO1_1 := BoxAt.ext hb bO1_1; replace bO1_2 := BoxAt.ext hb bO1_2; replace bO1_3 := BoxAt.ext hb bO1_3; replace bO1_4 := BoxAt.ext hb bO1_4; replace bO1_5 := BoxAt.ext hb bO1_5; replace bO1_6 := BoxAt.ext hb bO1_6; replace bO5_0 := BoxAt.ext hb bO5_0; replace bO5_1 := BoxAt.ext hb bO5_1; have hs11 := hb.size; clear hb; have lt12 := bO9_0.lt; refine pT (.int .i64 0) ?_; refine pl_nil ?_; refine qw_then ?_; refine cw_seq ?_; refine cw_seq ?_; have hX13 : Ext X10 X10 := Ext.refl _; refine cw_plain ?_
 refine pU (.agg #[.int .i64 o.p, .int .i64 o.f, .int .i64 o.lo, .int .i64 o.hi, .int .i64 o.nd, .int .i64 o.tn, .int .i64 o.sl]) (ex_load rfl (by kernel_rfl) (ld24 (bO1_0.1) (bO1_1.1) (bO1_2.1) (bO1_3.1) (bO1_4.1) (bO1_5.1) (bO1_6.1))) ?_
 refine pU (.agg #[.int .i64 s.1, .int .i64 s.2]) (ex_load rfl (by kernel_rfl) (ld26 (bO5_0.1) (bO5_1.1))) ?_
 refine pT (.int .i64 lk) ?_
 refine pS (sn_call (f := 22) (args := #[.agg #[.int .i64 o.p, .int .i64 o.f, .int .i64 o.lo, .int .i64 o.hi, .int .i64 o.nd, .int .i64 o.tn, .int .i64 o.sl], .agg #[.int .i64 s.1, .int .i64 s.2], .int .i64 lk]) (by kernel_rfl) ((sValid_r (r := true) o s lk _ (hv)).mono ?_))
 rintro e w14 ⟨rfl, hb⟩
 replace hE := hE.trans hb; replace hX13 := hX13.trans hb; have hs15 := hb.size; clear hb
 refine ⟨_, rfl, ?_⟩
 refine pT (.bool false) ?_; refine pT (.bool false) ?_; refine pT (.int .i64 d) ?_; refine pT (.pointer (some ⟨O1, 6, none⟩)) ?_
 refine pU (.int .i64 o.sl) (ex_load rfl (by kernel_rfl) (ld3 ((BoxAt.ext hX13 bO1_6).1))) ?_
 refine pU (.int .i64 (-o.sl : Int)) (ev_int (ev_wrap (a := 0 - o.sl) (by kernel_rfl) (by omega) (by omega)) (by omega)) ?_
 refine pT (.pointer (some ⟨O1, 6, none⟩)) ?_
 refine pU (.int .i64 o.sl) (ex_load rfl (by kernel_rfl) (ld3 ((BoxAt.ext hX13 bO1_6).1))) ?_
 refine pS (sn_call (f := 43) (args := #[.int .i64 d, .int .i64 (-o.sl : Int), .int .i64 o.sl]) (by kernel_rfl) ((swath_isIn_r (r := true) d (-o.sl) o.sl _ (hd9)).mono ?_))
 rintro e w16 ⟨rfl, hb⟩
 replace hE := hE.trans hb; replace hX13 := hX13.trans hb; have hs17 := hb.size; clear hb
 refine ⟨_, rfl, ?_⟩
 refine pT (.bool false) ?_; refine pT (.bool false) ?_; refine pl_nil ?_; refine qw_then ?_; refine cC6 2 3 4 5 8 24 (fun L => ?_)
 refine cw_f (by kernel_rfl) ?_
 refine cw_skip ?_
 refine qw_then ?_; refine cw_seq ?_; refine cw_plain ?_
 refine pU (.agg #[.int .i64 o.p, .int .i64 o.f, .int .i64 o.lo, .int .i64 o.hi, .int .i64 o.nd, .int .i64 o.tn, .int .i64 o.sl]) (ex_load rfl (by kernel_rfl) (ld24 ((BoxAt.ext hX13 bO1_0).1) ((BoxAt.ext hX13 bO1_1).1) ((BoxAt.ext hX13 bO1_2).1) ((BoxAt.ext hX13 bO1_3).1) ((BoxAt.ext hX13 bO1_4).1) ((BoxAt.ext hX13 bO1_5).1) ((BoxAt.ext hX13 bO1_6).1))) ?_
 refine pU (.agg #[.int .i64 s.1, .int .i64 s.2]) (ex_load rfl (by kernel_rfl) (ld26 ((BoxAt.ext hX13 bO5_0).1) ((BoxAt.ext hX13 bO5_1).1))) ?_
 refine pT (.int .i64 lk) ?_; refine pT (.int .i64 d) ?_
 refine pS (sn_call (f := 44) (args := #[.agg #[.int .i64 o.p, .int .i64 o.f, .int .i64 o.lo, .int .i64 o.hi, .int .i64 o.nd, .int .i64 o.tn, .int .i64 o.sl], .agg #[.int .i64 s.1, .int .i64 s.2], .int .i64 lk, .int .i64 d]) (by kernel_rfl) ((area_c o s lk d _ hv hd9).mono ?_))
 rintro e w21 ⟨B18, rfl, hn19, hr20, hb⟩
 replace hE := hE.trans hb; replace hX13 := hX13.trans hb; have hs22 := hb.size; clear hb; have lt23 := hr20.lt
 refine ⟨_, rfl, ?_⟩
 have bO1_t25 := (BoxAt.ext hX13 bO1_0)
 have bO1_t26 := (BoxAt.ext hX13 bO1_1)
 have bO1_t27 := (BoxAt.ext hX13 bO1_2)
 have bO1_t28 := (BoxAt.ext hX13 bO1_3)
 have bO1_t29 := (BoxAt.ext hX13 bO1_4)
 have bO1_t30 := (BoxAt.ext hX13 bO1_5)
 have bO1_t31 := (BoxAt.ext hX13 bO1_6)
 have bO5_t32 := (BoxAt.ext hX13 bO5_0)
 have bO5_t33 := (BoxAt.ext hX13 bO5_1)
 have bO9_t34 := (BoxAt.ext hX13 bO9_0)
 refine pP (sn_set (O := O9) (j := 0) (v := .slice (some ⟨B18, 0, none⟩) 24 24) (ex_store (p := .pointer (some ⟨O9, 0, none⟩)) (v := .agg #[.slice (some ⟨B18, 0, none⟩) 24 24]) rfl (by kernel_rfl) (by kernel_rfl) (st31 bO9_t34.1 bO9_t34.2)) bO9_t34 ?_)
 intro X24 ho hv0 hk; replace hE := ho.ext hE (T (T hs3 hs7) (Nat.le_of_eq hzO9))
 have q9 := fun (j : Nat) (v : Value) (h : BoxAt _ O1 j v) => ho.box (Nat.ne_of_gt (Nat.lt_of_lt_of_le lt4 (T hs7 (Nat.le_of_eq hzO9)))) h
 replace bO1_t25 := q9 _ _ bO1_t25; replace bO1_t26 := q9 _ _ bO1_t26; replace bO1_t27 := q9 _ _ bO1_t27; replace bO1_t28 := q9 _ _ bO1_t28; replace bO1_t29 := q9 _ _ bO1_t29; replace bO1_t30 := q9 _ _ bO1_t30; replace bO1_t31 := q9 _ _ bO1_t31; clear q9
 have q9 := fun (j : Nat) (v : Value) (h : BoxAt _ O5 j v) => ho.box (Nat.ne_of_gt (Nat.lt_of_lt_of_le lt8 (Nat.le_of_eq hzO9))) h
 replace bO5_t32 := q9 _ _ bO5_t32; replace bO5_t33 := q9 _ _ bO5_t33; clear q9; replace hr20 := ho.rows (Nat.ne_of_lt (Nat.lt_of_lt_of_le lt12 (T (T hs15 hs17) hn19))) hr20; have hs35 : w21.heap.size ≤ X24.heap.size := Nat.le_of_eq ho.size.symm; clear ho hk bO9_t34; have bO9_t34 := hv0; clear hv0; refine pT (.int .i64 0) ?_; refine pl_nil ?_; refine qw_then ?_
 refine cw_ret ?_
 refine qw_ret [.agg #[.slice (some ⟨B18, 0, none⟩) 24 24], .int .i64 0] rfl ⟨⟨_, by kernel_rfl, res_ld (ld31 (bO9_t34.1))⟩, (by kernel_rfl), trivial⟩ ?_
 exact ⟨B18, rfl, (T (T hs3 (T hs7 (T hs11 (T hs15 hs17)))) hn19), hr20, hE⟩
set_option maxRecDepth 1000000 in
set_option maxHeartbeats 4000000 in
theorem Shown_n {o : Orb} {s : Int × Int} {lk d : Int} (w : World) (hd8 : shdB o s lk d = false) : Calls Try.prog 14 #[.agg #[.int .i64 o.p, .int .i64 o.f, .int .i64 o.lo, .int .i64 o.hi, .int .i64 o.nd, .int .i64 o.tn, .int .i64 o.sl], .agg #[.int .i64 s.1, .int .i64 s.2], .int .i64 lk, .int .i64 d] w (RetErr w 80) := by
 refine calls_cw 31 [(3, .int .i64 d), (2, .int .i64 lk), (1, .agg #[.int .i64 s.1, .int .i64 s.2]), (0, .agg #[.int .i64 o.p, .int .i64 o.f, .int .i64 o.lo, .int .i64 o.hi, .int .i64 o.nd, .int .i64 o.tn, .int .i64 o.sl])] Try.func14 rfl Try.ntmps14 (by kernel_rfl) (by kernel_rfl) (fun L => ?_)
 have hE : Ext w w := Ext.refl w
 refine cw_seq ?_; refine cw_plain ?_
 refine pS (sn_new (us := #[.int .i64 o.p, .int .i64 o.f, .int .i64 o.lo, .int .i64 o.hi, .int .i64 o.nd, .int .i64 o.tn, .int .i64 o.sl]) (t := 24) (by kernel_rfl) ?_)
 intro O1 X2 hzO1 hyO1 hb hbx; have ⟨bO1_0, bO1_1, bO1_2, bO1_3, bO1_4, bO1_5, bO1_6⟩ := bx7 hbx; clear hbx
 replace hE := hE.trans hb; have hs3 := hb.size; clear hb; have lt4 := bO1_0.lt
 refine pS (sn_new (us := #[.int .i64 s.1, .int .i64 s.2]) (t := 26) (by kernel_rfl) ?_)
 intro O5 X6 hzO5 hyO5 hb hbx; have ⟨bO5_0, bO5_1⟩ := bx2 hbx; clear hbx
 replace hE := hE.trans hb; replace bO1_0 := BoxAt.ext hb bO1_0; replace bO1_1 := BoxAt.ext hb bO1_1; replace bO1_2 := BoxAt.ext hb bO1_2; replace bO1_3 := BoxAt.ext hb bO1_3; replace bO1_4 := BoxAt.ext hb bO1_4; replace bO1_5 := BoxAt.ext hb bO1_5; replace bO1_6 := BoxAt.ext hb bO1_6; have hs7 := hb.size; clear hb; have lt8 := bO5_0.lt
 refine pS (sn_new (us := #[.slice none 0 0]) (t := 31) (by kernel_rfl) ?_)
 intro O9 X10 hzO9 hyO9 hb hbx; have bO9_0 := bx1 hbx; clear hbx
 replace hE := hE.trans hb; replace bO1_0 := BoxAt.ext hb bO1_0; replace bO1_1 := BoxAt.ext hb bO1_1; replace bO1_2 := BoxAt.ext hb bO1_2; replace bO1_3 := BoxAt.ext hb bO1_3; replace bO1_4 := BoxAt.ext hb bO1_4; replace bO1_5 := BoxAt.ext hb bO1_5; replace bO1_6 := BoxAt.ext hb bO1_6; replace bO5_0 := BoxAt.ext hb bO5_0; replace bO5_1 := BoxAt.ext hb bO5_1; have hs11 := hb.size; clear hb; have lt12 := bO9_0.lt; refine pT (.int .i64 0) ?_; refine pl_nil ?_; refine qw_then ?_; refine cw_seq ?_; refine cw_seq ?_; have hX13 : Ext X10 X10 := Ext.refl _; refine cw_plain ?_
 refine pU (.agg #[.int .i64 o.p, .int .i64 o.f, .int .i64 o.lo, .int .i64 o.hi, .int .i64 o.nd, .int .i64 o.tn, .int .i64 o.sl]) (ex_load rfl (by kernel_rfl) (ld24 (bO1_0.1) (bO1_1.1) (bO1_2.1) (bO1_3.1) (bO1_4.1) (bO1_5.1) (bO1_6.1))) ?_
 refine pU (.agg #[.int .i64 s.1, .int .i64 s.2]) (ex_load rfl (by kernel_rfl) (ld26 (bO5_0.1) (bO5_1.1))) ?_
 refine pT (.int .i64 lk) ?_
 rcases Bool.eq_false_or_eq_true (Swath.shB o s lk) with hb14 | hb14
 ·
  have hq0 := Orb.ok_t.1 (Swath.shB_t.1 hb14).1
  refine pS (sn_call (f := 22) (args := #[.agg #[.int .i64 o.p, .int .i64 o.f, .int .i64 o.lo, .int .i64 o.hi, .int .i64 o.nd, .int .i64 o.tn, .int .i64 o.sl], .agg #[.int .i64 s.1, .int .i64 s.2], .int .i64 lk]) (by kernel_rfl) ((sValid_r (r := true) o s lk _ (hb14)).mono ?_))
  rintro e w15 ⟨rfl, hb⟩
  replace hE := hE.trans hb; replace hX13 := hX13.trans hb; have hs16 := hb.size; clear hb
  refine ⟨_, rfl, ?_⟩
  refine pT (.bool false) ?_; refine pT (.bool false) ?_; refine pT (.int .i64 d) ?_; refine pT (.pointer (some ⟨O1, 6, none⟩)) ?_
  refine pU (.int .i64 o.sl) (ex_load rfl (by kernel_rfl) (ld3 ((BoxAt.ext hX13 bO1_6).1))) ?_
  refine pU (.int .i64 (-o.sl : Int)) (ev_int (ev_wrap (a := 0 - o.sl) (by kernel_rfl) (by omega) (by omega)) (by omega)) ?_
  refine pT (.pointer (some ⟨O1, 6, none⟩)) ?_
  refine pU (.int .i64 o.sl) (ex_load rfl (by kernel_rfl) (ld3 ((BoxAt.ext hX13 bO1_6).1))) ?_
  rcases Bool.eq_false_or_eq_true (Globe.inB d (-o.sl) o.sl) with hb17 | hb17
  ·
   have hq18 := Globe.inB_t.1 hb17
   refine pS (sn_call (f := 43) (args := #[.int .i64 d, .int .i64 (-o.sl : Int), .int .i64 o.sl]) (by kernel_rfl) ((swath_isIn_r (r := true) d (-o.sl) o.sl _ (hb17)).mono ?_))
   rintro e w19 ⟨rfl, hb⟩
   replace hE := hE.trans hb; replace hX13 := hX13.trans hb; have hs20 := hb.size; clear hb
   refine ⟨_, rfl, ?_⟩
   refine pT (.bool false) ?_; refine pT (.bool false) ?_; refine pl_nil ?_; refine qw_then ?_; refine cC6 2 3 4 5 8 24 (fun L => ?_)
   refine cw_f (by kernel_rfl) ?_
   refine cw_skip ?_
   refine qw_then ?_; refine cw_seq ?_
   exfalso; simp [shdB, hb14, hb17] at hd8
  ·
   refine pS (sn_call (f := 43) (args := #[.int .i64 d, .int .i64 (-o.sl : Int), .int .i64 o.sl]) (by kernel_rfl) ((swath_isIn_r (r := false) d (-o.sl) o.sl _ (hb17)).mono ?_))
   rintro e w21 ⟨rfl, hb⟩
   replace hE := hE.trans hb; replace hX13 := hX13.trans hb; have hs22 := hb.size; clear hb
   refine ⟨_, rfl, ?_⟩
   refine pT (.bool true) ?_; refine pT (.bool true) ?_; refine pl_nil ?_; refine qw_then ?_; refine cC6 2 3 4 5 8 24 (fun L => ?_)
   refine cw_t (by kernel_rfl) ?_
   refine cw_seq ?_; refine cw_plain ?_; refine pT (.agg #[.slice none 0 0]) ?_
   have bO1_t24 := (BoxAt.ext hX13 bO1_0)
   have bO1_t25 := (BoxAt.ext hX13 bO1_1)
   have bO1_t26 := (BoxAt.ext hX13 bO1_2)
   have bO1_t27 := (BoxAt.ext hX13 bO1_3)
   have bO1_t28 := (BoxAt.ext hX13 bO1_4)
   have bO1_t29 := (BoxAt.ext hX13 bO1_5)
   have bO1_t30 := (BoxAt.ext hX13 bO1_6)
   have bO5_t31 := (BoxAt.ext hX13 bO5_0)
   have bO5_t32 := (BoxAt.ext hX13 bO5_1)
   have bO9_t33 := (BoxAt.ext hX13 bO9_0)
   refine pP (sn_set (O := O9) (j := 0) (v := .slice none 0 0) (ex_store (p := .pointer (some ⟨O9, 0, none⟩)) (v := .agg #[.slice none 0 0]) rfl (by kernel_rfl) (by kernel_rfl) (st31 bO9_t33.1 bO9_t33.2)) bO9_t33 ?_)
   intro X23 ho hv0 hk; replace hE := ho.ext hE (T (T hs3 hs7) (Nat.le_of_eq hzO9))
   have q9 := fun (j : Nat) (v : Value) (h : BoxAt _ O1 j v) => ho.box (Nat.ne_of_gt (Nat.lt_of_lt_of_le lt4 (T hs7 (Nat.le_of_eq hzO9)))) h
   replace bO1_t24 := q9 _ _ bO1_t24; replace bO1_t25 := q9 _ _ bO1_t25; replace bO1_t26 := q9 _ _ bO1_t26; replace bO1_t27 := q9 _ _ bO1_t27; replace bO1_t28 := q9 _ _ bO1_t28; replace bO1_t29 := q9 _ _ bO1_t29; replace bO1_t30 := q9 _ _ bO1_t30; clear q9
   have q9 := fun (j : Nat) (v : Value) (h : BoxAt _ O5 j v) => ho.box (Nat.ne_of_gt (Nat.lt_of_lt_of_le lt8 (Nat.le_of_eq hzO9))) h
   replace bO5_t31 := q9 _ _ bO5_t31; replace bO5_t32 := q9 _ _ bO5_t32; clear q9; have hs34 : w21.heap.size ≤ X23.heap.size := Nat.le_of_eq ho.size.symm; clear ho hk bO9_t33; have bO9_t33 := hv0; clear hv0; refine pT (.int .i64 80) ?_; refine pl_nil ?_; refine qw_then ?_
   refine cw_ret ?_
   refine qw_then_ret ?_
   refine qw_ret [.agg #[.slice none 0 0], .int .i64 80] rfl ⟨⟨_, by kernel_rfl, res_ld (ld31 (bO9_t33.1))⟩, (by kernel_rfl), trivial⟩ ?_
   exact ⟨rfl, hE⟩
 ·
  refine pS (sn_call (f := 22) (args := #[.agg #[.int .i64 o.p, .int .i64 o.f, .int .i64 o.lo, .int .i64 o.hi, .int .i64 o.nd, .int .i64 o.tn, .int .i64 o.sl], .agg #[.int .i64 s.1, .int .i64 s.2], .int .i64 lk]) (by kernel_rfl) ((sValid_r (r := false) o s lk _ (hb14)).mono ?_))
  rintro e w35 ⟨rfl, hb⟩
  replace hE := hE.trans hb; replace hX13 := hX13.trans hb; have hs36 := hb.size; clear hb
  refine ⟨_, rfl, ?_⟩
  refine pT (.bool true) ?_; refine pT (.bool true) ?_; refine pK ?_; refine pK ?_; refine pK ?_; refine pK ?_; refine pK ?_; refine pK ?_; refine pK ?_; refine pK ?_; refine pT (.bool true) ?_; refine pl_nil ?_; refine qw_then ?_; refine cC6 2 3 4 5 8 24 (fun L => ?_)
  refine cw_t (by kernel_rfl) ?_
  refine cw_seq ?_; refine cw_plain ?_; refine pT (.agg #[.slice none 0 0]) ?_
  have bO1_t38 := (BoxAt.ext hX13 bO1_0)
  have bO1_t39 := (BoxAt.ext hX13 bO1_1)
  have bO1_t40 := (BoxAt.ext hX13 bO1_2)
  have bO1_t41 := (BoxAt.ext hX13 bO1_3)
  have bO1_t42 := (BoxAt.ext hX13 bO1_4)
  have bO1_t43 := (BoxAt.ext hX13 bO1_5)
  have bO1_t44 := (BoxAt.ext hX13 bO1_6)
  have bO5_t45 := (BoxAt.ext hX13 bO5_0)
  have bO5_t46 := (BoxAt.ext hX13 bO5_1)
  have bO9_t47 := (BoxAt.ext hX13 bO9_0)
  refine pP (sn_set (O := O9) (j := 0) (v := .slice none 0 0) (ex_store (p := .pointer (some ⟨O9, 0, none⟩)) (v := .agg #[.slice none 0 0]) rfl (by kernel_rfl) (by kernel_rfl) (st31 bO9_t47.1 bO9_t47.2)) bO9_t47 ?_)
  intro X37 ho hv0 hk; replace hE := ho.ext hE (T (T hs3 hs7) (Nat.le_of_eq hzO9))
  have q9 := fun (j : Nat) (v : Value) (h : BoxAt _ O1 j v) => ho.box (Nat.ne_of_gt (Nat.lt_of_lt_of_le lt4 (T hs7 (Nat.le_of_eq hzO9)))) h
  replace bO1_t38 := q9 _ _ bO1_t38; replace bO1_t39 := q9 _ _ bO1_t39; replace bO1_t40 := q9 _ _ bO1_t40; replace bO1_t41 := q9 _ _ bO1_t41; replace bO1_t42 := q9 _ _ bO1_t42; replace bO1_t43 := q9 _ _ bO1_t43; replace bO1_t44 := q9 _ _ bO1_t44; clear q9
  have q9 := fun (j : Nat) (v : Value) (h : BoxAt _ O5 j v) => ho.box (Nat.ne_of_gt (Nat.lt_of_lt_of_le lt8 (Nat.le_of_eq hzO9))) h
  replace bO5_t45 := q9 _ _ bO5_t45; replace bO5_t46 := q9 _ _ bO5_t46; clear q9; have hs48 : w35.heap.size ≤ X37.heap.size := Nat.le_of_eq ho.size.symm; clear ho hk bO9_t47; have bO9_t47 := hv0; clear hv0; refine pT (.int .i64 80) ?_; refine pl_nil ?_; refine qw_then ?_
  refine cw_ret ?_
  refine qw_then_ret ?_
  refine qw_ret [.agg #[.slice none 0 0], .int .i64 80] rfl ⟨⟨_, by kernel_rfl, res_ld (ld31 (bO9_t47.1))⟩, (by kernel_rfl), trivial⟩ ?_
  exact ⟨rfl, hE⟩
set_option maxRecDepth 1000000 in
set_option maxHeartbeats 4000000 in
theorem Shows_t {w1 : World} {o : Orb} {s : Int × Int} {lk : Int} {a : Option Addr} {l : List Int} {n : Nat} {v : Bool} (c : Nat) (w : World) (hA : AA w1 a l n v) (e1 : Ext w1 w) (hv : Swath.shB o s lk = true) : Calls Try.prog 24 #[.agg #[.int .i64 o.p, .int .i64 o.f, .int .i64 o.lo, .int .i64 o.hi, .int .i64 o.nd, .int .i64 o.tn, .int .i64 o.sl], .agg #[.int .i64 s.1, .int .i64 s.2], .int .i64 lk, .agg #[.slice a n c]] w fun e w' => e = .returned (.bool (Swath.showsB o s lk l)) ∧ Ext w w' := by
 refine calls_cw 26 [(3, .agg #[.slice a n c]), (2, .int .i64 lk), (1, .agg #[.int .i64 s.1, .int .i64 s.2]), (0, .agg #[.int .i64 o.p, .int .i64 o.f, .int .i64 o.lo, .int .i64 o.hi, .int .i64 o.nd, .int .i64 o.tn, .int .i64 o.sl])] Try.func24 rfl Try.ntmps24 (by kernel_rfl) (by kernel_rfl) (fun L => ?_)
 have hE : Ext w w := Ext.refl w
 refine cw_seq ?_; refine cw_plain ?_
 refine pS (sn_new (us := #[.int .i64 o.p, .int .i64 o.f, .int .i64 o.lo, .int .i64 o.hi, .int .i64 o.nd, .int .i64 o.tn, .int .i64 o.sl]) (t := 24) (by kernel_rfl) ?_)
 intro O1 X2 hzO1 hyO1 hb hbx; have ⟨bO1_0, bO1_1, bO1_2, bO1_3, bO1_4, bO1_5, bO1_6⟩ := bx7 hbx; clear hbx
 replace hE := hE.trans hb; have hs3 := hb.size; clear hb; have lt4 := bO1_0.lt
 refine pS (sn_new (us := #[.int .i64 s.1, .int .i64 s.2]) (t := 26) (by kernel_rfl) ?_)
 intro O5 X6 hzO5 hyO5 hb hbx; have ⟨bO5_0, bO5_1⟩ := bx2 hbx; clear hbx
 replace hE := hE.trans hb; replace bO1_0 := BoxAt.ext hb bO1_0; replace bO1_1 := BoxAt.ext hb bO1_1; replace bO1_2 := BoxAt.ext hb bO1_2; replace bO1_3 := BoxAt.ext hb bO1_3; replace bO1_4 := BoxAt.ext hb bO1_4; replace bO1_5 := BoxAt.ext hb bO1_5; replace bO1_6 := BoxAt.ext hb bO1_6; have hs7 := hb.size; clear hb; have lt8 := bO5_0.lt
 refine pS (sn_new (us := #[.slice a n c]) (t := 31) (by kernel_rfl) ?_)
 intro O9 X10 hzO9 hyO9 hb hbx; have bO9_0 := bx1 hbx; clear hbx
 replace hE := hE.trans hb; replace bO1_0 := BoxAt.ext hb bO1_0; replace bO1_1 := BoxAt.ext hb bO1_1; replace bO1_2 := BoxAt.ext hb bO1_2; replace bO1_3 := BoxAt.ext hb bO1_3; replace bO1_4 := BoxAt.ext hb bO1_4; replace bO1_5 := BoxAt.ext hb bO1_5; replace bO1_6 := BoxAt.ext hb bO1_6; replace bO5_0 := BoxAt.ext hb bO5_0; replace bO5_1 := BoxAt.ext hb bO5_1; have hs11 := hb.size; clear hb; have lt12 := bO9_0.lt; refine pT (.bool false) ?_; refine pl_nil ?_; refine qw_then ?_; refine cw_seq ?_; have hX13 : Ext X10 X10 := Ext.refl _; refine cw_plain ?_
 refine pU (.agg #[.int .i64 o.p, .int .i64 o.f, .int .i64 o.lo, .int .i64 o.hi, .int .i64 o.nd, .int .i64 o.tn, .int .i64 o.sl]) (ex_load rfl (by kernel_rfl) (ld24 (bO1_0.1) (bO1_1.1) (bO1_2.1) (bO1_3.1) (bO1_4.1) (bO1_5.1) (bO1_6.1))) ?_
 refine pU (.agg #[.int .i64 s.1, .int .i64 s.2]) (ex_load rfl (by kernel_rfl) (ld26 (bO5_0.1) (bO5_1.1))) ?_
 refine pT (.int .i64 lk) ?_
 refine pS (sn_call (f := 17) (args := #[.agg #[.int .i64 o.p, .int .i64 o.f, .int .i64 o.lo, .int .i64 o.hi, .int .i64 o.nd, .int .i64 o.tn, .int .i64 o.sl], .agg #[.int .i64 s.1, .int .i64 s.2], .int .i64 lk]) (by kernel_rfl) ((Strip_y (o := o) (s := s) (lk := lk) _ (hv)).mono ?_))
 rintro e w23 ⟨B14, g15, k16, k17, rfl, hn18, hn19, hne20, hr21, hr22, hb⟩
 replace hE := hE.trans hb; replace hX13 := hX13.trans hb; have hs24 := hb.size; clear hb; have lt25 := hr21.lt; have lt26 := hr22.lt
 have hne20h := Lib.hid hne20
 refine ⟨_, rfl, ?_⟩
 refine pT (.tuple #[.agg #[.slice (some ⟨B14, 0, none⟩) 24 k16, .slice (some ⟨g15, 0, none⟩) 24 k17], .int .i64 0]) ?_; refine pT (.agg #[.slice (some ⟨B14, 0, none⟩) 24 k16, .slice (some ⟨g15, 0, none⟩) 24 k17]) ?_; refine pT (.int .i64 0) ?_
 refine pS (sn_new (us := #[.slice none 0 0, .slice none 0 0]) (t := 44) (by kernel_rfl) ?_)
 intro O27 X28 hzO27 hyO27 hb hbx; have ⟨bO27_0, bO27_1⟩ := bx2 hbx; clear hbx
 replace hE := hE.trans hb; replace hX13 := hX13.trans hb; replace hr21 := hr21.ext hb; replace hr22 := hr22.ext hb; have hs29 := hb.size; clear hb; have lt30 := bO27_0.lt
 refine pP (sn_set2 (O := O27) (j := 0) (v := .slice (some ⟨B14, 0, none⟩) 24 k16) (v' := .slice (some ⟨g15, 0, none⟩) 24 k17) (ex_store (p := .pointer (some ⟨O27, 0, none⟩)) (v := .agg #[.slice (some ⟨B14, 0, none⟩) 24 k16, .slice (some ⟨g15, 0, none⟩) 24 k17]) rfl (by kernel_rfl) (by kernel_rfl) (st44 bO27_0.1 bO27_0.2 bO27_1.1 bO27_1.2)) bO27_0 bO27_1 ?_)
 intro X31 ho hv0 hv1 hk; replace hE := ho.ext hE (T (T hs3 (T hs7 (T hs11 hs24))) (Nat.le_of_eq hzO27)); replace hX13 := ho.ext hX13 (T hs24 (Nat.le_of_eq hzO27)); replace hr21 := ho.rows (Nat.ne_of_gt (Nat.lt_of_lt_of_le lt25 (Nat.le_of_eq hzO27))) hr21; replace hr22 := ho.rows (Nat.ne_of_gt (Nat.lt_of_lt_of_le lt26 (Nat.le_of_eq hzO27))) hr22; have hs32 : X28.heap.size ≤ X31.heap.size := Nat.le_of_eq ho.size.symm; clear ho hk bO27_0 bO27_1; have bO27_0 := hv0; clear hv0; have bO27_1 := hv1; clear hv1; refine pT (.int .i64 0) ?_; refine pl_nil ?_; refine qw_then ?_; refine cC3 7 9 10 (fun L => ?_); refine cw_seq ?_; have hX33 : Ext X31 X31 := Ext.refl _; refine cw_plain ?_; refine pT (.int .i64 0) ?_; refine pT (.bool true) ?_; refine pT (.bool true) ?_; refine pT (.pointer (some ⟨O27, 0, none⟩)) ?_
 refine pU (.agg #[.slice (some ⟨B14, 0, none⟩) 24 k16]) (ex_load rfl (by kernel_rfl) (ld31 (bO27_0.1))) ?_
 refine pU (.agg #[.slice a n c]) (ex_load rfl (by kernel_rfl) (ld31 ((BoxAt.ext (hX13.trans hX33) bO9_0).1))) ?_
 refine pS (sn_call (f := 31) (args := #[.agg #[.slice (some ⟨B14, 0, none⟩) 24 k16], .agg #[.slice a n c]]) (by kernel_rfl) ((Contains_c _ _ _ (hr21.va (Swath.sure_valid (Swath.shB_t.1 hv).1 s lk)).aa (Ext.refl _) hA (e1.trans hE)).mono ?_))
 rintro e w34 ⟨rfl, hb⟩
 replace hE := hE.trans hb; replace hX33 := hX33.trans hb; have hs35 := hb.size; clear hb
 refine ⟨_, rfl, ?_⟩
 refine pT (.bool (Globe.containsB (Swath.sureL o s lk) l)) ?_; refine pT (.bool (Globe.containsB (Swath.sureL o s lk) l)) ?_; refine pl_nil ?_; refine qw_then ?_
 refine cw_ret ?_
 refine qw_ret [.bool (Globe.containsB (Swath.sureL o s lk) l)] rfl ⟨(by kernel_rfl), trivial⟩ ?_
 exact ⟨congrArg (fun b => Ending.returned (Value.bool b)) (show Swath.showsB o s lk l = Globe.containsB (Swath.sureL o s lk) l by unfold Swath.showsB; rw [hv]; rfl).symm, hE⟩
set_option maxRecDepth 1000000 in
set_option maxHeartbeats 4000000 in
theorem Shows_f {w1 : World} {o : Orb} {s : Int × Int} {lk : Int} {a : Option Addr} {l : List Int} {n : Nat} {v : Bool} (c : Nat) (w : World) (_hA : AA w1 a l n v) (_e1 : Ext w1 w) (hv : Swath.shB o s lk = false) : Calls Try.prog 24 #[.agg #[.int .i64 o.p, .int .i64 o.f, .int .i64 o.lo, .int .i64 o.hi, .int .i64 o.nd, .int .i64 o.tn, .int .i64 o.sl], .agg #[.int .i64 s.1, .int .i64 s.2], .int .i64 lk, .agg #[.slice a n c]] w fun e w' => e = .returned (.bool (Swath.showsB o s lk l)) ∧ Ext w w' := by
 refine calls_cw 26 [(3, .agg #[.slice a n c]), (2, .int .i64 lk), (1, .agg #[.int .i64 s.1, .int .i64 s.2]), (0, .agg #[.int .i64 o.p, .int .i64 o.f, .int .i64 o.lo, .int .i64 o.hi, .int .i64 o.nd, .int .i64 o.tn, .int .i64 o.sl])] Try.func24 rfl Try.ntmps24 (by kernel_rfl) (by kernel_rfl) (fun L => ?_)
 have hE : Ext w w := Ext.refl w
 refine cw_seq ?_; refine cw_plain ?_
 refine pS (sn_new (us := #[.int .i64 o.p, .int .i64 o.f, .int .i64 o.lo, .int .i64 o.hi, .int .i64 o.nd, .int .i64 o.tn, .int .i64 o.sl]) (t := 24) (by kernel_rfl) ?_)
 intro O1 X2 hzO1 hyO1 hb hbx; have ⟨bO1_0, bO1_1, bO1_2, bO1_3, bO1_4, bO1_5, bO1_6⟩ := bx7 hbx; clear hbx
 replace hE := hE.trans hb; have hs3 := hb.size; clear hb; have lt4 := bO1_0.lt
 refine pS (sn_new (us := #[.int .i64 s.1, .int .i64 s.2]) (t := 26) (by kernel_rfl) ?_)
 intro O5 X6 hzO5 hyO5 hb hbx; have ⟨bO5_0, bO5_1⟩ := bx2 hbx; clear hbx
 replace hE := hE.trans hb; replace bO1_0 := BoxAt.ext hb bO1_0; replace bO1_1 := BoxAt.ext hb bO1_1; replace bO1_2 := BoxAt.ext hb bO1_2; replace bO1_3 := BoxAt.ext hb bO1_3; replace bO1_4 := BoxAt.ext hb bO1_4; replace bO1_5 := BoxAt.ext hb bO1_5; replace bO1_6 := BoxAt.ext hb bO1_6; have hs7 := hb.size; clear hb; have lt8 := bO5_0.lt
 refine pS (sn_new (us := #[.slice a n c]) (t := 31) (by kernel_rfl) ?_)
 intro O9 X10 hzO9 hyO9 hb hbx; have bO9_0 := bx1 hbx; clear hbx
 replace hE := hE.trans hb; replace bO1_0 := BoxAt.ext hb bO1_0; replace bO1_1 := BoxAt.ext hb bO1_1; replace bO1_2 := BoxAt.ext hb bO1_2; replace bO1_3 := BoxAt.ext hb bO1_3; replace bO1_4 := BoxAt.ext hb bO1_4; replace bO1_5 := BoxAt.ext hb bO1_5; replace bO1_6 := BoxAt.ext hb bO1_6; replace bO5_0 := BoxAt.ext hb bO5_0; replace bO5_1 := BoxAt.ext hb bO5_1; have hs11 := hb.size; clear hb; have lt12 := bO9_0.lt; refine pT (.bool false) ?_; refine pl_nil ?_; refine qw_then ?_; refine cw_seq ?_; have hX13 : Ext X10 X10 := Ext.refl _; refine cw_plain ?_
 refine pU (.agg #[.int .i64 o.p, .int .i64 o.f, .int .i64 o.lo, .int .i64 o.hi, .int .i64 o.nd, .int .i64 o.tn, .int .i64 o.sl]) (ex_load rfl (by kernel_rfl) (ld24 (bO1_0.1) (bO1_1.1) (bO1_2.1) (bO1_3.1) (bO1_4.1) (bO1_5.1) (bO1_6.1))) ?_
 refine pU (.agg #[.int .i64 s.1, .int .i64 s.2]) (ex_load rfl (by kernel_rfl) (ld26 (bO5_0.1) (bO5_1.1))) ?_
 refine pT (.int .i64 lk) ?_
 refine pS (sn_call (f := 17) (args := #[.agg #[.int .i64 o.p, .int .i64 o.f, .int .i64 o.lo, .int .i64 o.hi, .int .i64 o.nd, .int .i64 o.tn, .int .i64 o.sl], .agg #[.int .i64 s.1, .int .i64 s.2], .int .i64 lk]) (by kernel_rfl) ((Strip_n _ (hv)).mono ?_))
 rintro e w14 ⟨rfl, hb⟩
 replace hE := hE.trans hb; replace hX13 := hX13.trans hb; have hs15 := hb.size; clear hb
 refine ⟨_, rfl, ?_⟩
 refine pT (.tuple #[.agg #[.slice none 0 0, .slice none 0 0], .int .i64 80]) ?_; refine pT (.agg #[.slice none 0 0, .slice none 0 0]) ?_; refine pT (.int .i64 80) ?_
 refine pS (sn_new (us := #[.slice none 0 0, .slice none 0 0]) (t := 44) (by kernel_rfl) ?_)
 intro O16 X17 hzO16 hyO16 hb hbx; have ⟨bO16_0, bO16_1⟩ := bx2 hbx; clear hbx
 replace hE := hE.trans hb; replace hX13 := hX13.trans hb; have hs18 := hb.size; clear hb; have lt19 := bO16_0.lt
 refine pP (sn_set2 (O := O16) (j := 0) (v := .slice none 0 0) (v' := .slice none 0 0) (ex_store (p := .pointer (some ⟨O16, 0, none⟩)) (v := .agg #[.slice none 0 0, .slice none 0 0]) rfl (by kernel_rfl) (by kernel_rfl) (st44 bO16_0.1 bO16_0.2 bO16_1.1 bO16_1.2)) bO16_0 bO16_1 ?_)
 intro X20 ho hv0 hv1 hk; replace hE := ho.ext hE (T (T hs3 (T hs7 (T hs11 hs15))) (Nat.le_of_eq hzO16)); replace hX13 := ho.ext hX13 (T hs15 (Nat.le_of_eq hzO16)); have hs21 : X17.heap.size ≤ X20.heap.size := Nat.le_of_eq ho.size.symm; clear ho hk bO16_0 bO16_1; have bO16_0 := hv0; clear hv0; have bO16_1 := hv1; clear hv1; refine pT (.int .i64 80) ?_; refine pl_nil ?_; refine qw_then ?_; refine cC3 7 9 10 (fun L => ?_); refine cw_seq ?_; refine cw_plain ?_; refine pT (.int .i64 80) ?_; refine pT (.bool false) ?_; refine pT (.bool false) ?_; refine pK ?_; refine pK ?_; refine pK ?_; refine pK ?_; refine pT (.bool false) ?_; refine pT (.bool false) ?_; refine pl_nil ?_; refine qw_then ?_
 refine cw_ret ?_
 refine qw_ret [.bool false] rfl ⟨(by kernel_rfl), trivial⟩ ?_
 exact ⟨congrArg (fun b => Ending.returned (Value.bool b)) (show Swath.showsB o s lk l = false by unfold Swath.showsB; rw [hv]; rfl).symm, hE⟩
theorem Shows_c {w1 : World} {o : Orb} {s : Int × Int} {lk : Int} {a : Option Addr} {l : List Int} {n : Nat} {v : Bool} (c : Nat) (w : World) (hA : AA w1 a l n v) (e1 : Ext w1 w) : Calls Try.prog 24 #[.agg #[.int .i64 o.p, .int .i64 o.f, .int .i64 o.lo, .int .i64 o.hi, .int .i64 o.nd, .int .i64 o.tn, .int .i64 o.sl], .agg #[.int .i64 s.1, .int .i64 s.2], .int .i64 lk, .agg #[.slice a n c]] w fun e w' => e = .returned (.bool (Swath.showsB o s lk l)) ∧ Ext w w' := by
 cases hv : Swath.shB o s lk
 · exact Shows_f c w hA e1 hv
 · exact Shows_t c w hA e1 hv

end Go.Proofs.Ytdjjkhefdalokaa

/- 'pick': an index out of an arbitrary integer. Plain mathematics. -/
namespace Go.Proofs.Ytdjjkhefdalokaa

/-- The bounds of an int. -/
def IsI (c : Int) : Prop := -9223372036854775808 ≤ c ∧ c ≤ 9223372036854775807
def pickF (c n : Int) : Int := (if c < 0 then -(c + 1) else c) % n
theorem pickF_bd {c n : Int} (h : 0 < n) : 0 ≤ pickF c n ∧ pickF c n < n := ⟨Int.emod_nonneg _ (by omega), Int.emod_lt_of_pos _ h⟩
theorem pickF_neg {c n : Int} (h : c < 0) : pickF c n = (-(c + 1)) % n := by rw [pickF, if_pos h]
theorem pickF_pos {c n : Int} (h : 0 ≤ c) : pickF c n = c % n := by rw [pickF, if_neg (by omega)]

end Go.Proofs.Ytdjjkhefdalokaa

/- pick, in chapter 8's laws and in the references that they lean on. -/
namespace Go.Proofs.Ytdjjkhefdalokaa
open Go.RowKit

theorem pickL_c (c n : Int) (w : World) (hc : IsI c) (h0 : 0 < n) (h1 : n ≤ 100000000) : Calls Try.prog 13 #[.int .i64 c, .int .i64 n] w fun e w' => e = .returned (.int .i64 (pickF c n)) ∧ w = w' := by
  obtain ⟨h2, h3⟩ := hc
  by_cases h : c < 0
  · go_enter Try.func13, Try.ntmps13
    go_wp2
    go_ret
    exact ⟨ret_int (by rw [pickF_neg h, ← Int.neg_tmod, Int.tmod_eq_emod_of_nonneg (by omega)]), rfl⟩
  · have h' : 0 ≤ c := by omega
    go_enter Try.func13, Try.ntmps13
    go_wp2
    go_ret
    exact ⟨ret_int (by rw [pickF_pos h']), rfl⟩
theorem pickL_n (c : Int) (n : Nat) (w : World) (hc : IsI c) (h0 : 0 < n) (h1 : n ≤ 100000000) : Calls Try.prog 13 #[.int .i64 c, .int .i64 ((n : Nat) : Int)] w fun e w' => ∃ k : Nat, e = .returned (.int .i64 ((k : Nat) : Int)) ∧ k < n ∧ pickF c n = (k : Int) ∧ w = w' :=
 (pickL_c c n w hc (by omega) (by omega)).mono fun e w' ⟨he, hw⟩ => by
  have hb := pickF_bd (c := c) (n := (n : Int)) (by omega)
  obtain ⟨k, hk⟩ : ∃ k : Nat, pickF c n = (k : Int) := ⟨(pickF c n).toNat, by omega⟩
  exact ⟨k, by rw [he, hk], by omega, hk, hw⟩
theorem pick7_c (c n : Int) (w : World) (hc : IsI c) (h0 : 0 < n) (h1 : n ≤ 100000000) : Calls Try.prog 41 #[.int .i64 c, .int .i64 n] w fun e w' => e = .returned (.int .i64 (pickF c n)) ∧ w = w' := by
  obtain ⟨h2, h3⟩ := hc
  by_cases h : c < 0
  · go_enter Try.func41, Try.ntmps41
    go_wp2
    go_ret
    exact ⟨ret_int (by rw [pickF_neg h, ← Int.neg_tmod, Int.tmod_eq_emod_of_nonneg (by omega)]), rfl⟩
  · have h' : 0 ≤ c := by omega
    go_enter Try.func41, Try.ntmps41
    go_wp2
    go_ret
    exact ⟨ret_int (by rw [pickF_pos h']), rfl⟩
theorem pick7_n (c : Int) (n : Nat) (w : World) (hc : IsI c) (h0 : 0 < n) (h1 : n ≤ 100000000) : Calls Try.prog 41 #[.int .i64 c, .int .i64 ((n : Nat) : Int)] w fun e w' => ∃ k : Nat, e = .returned (.int .i64 ((k : Nat) : Int)) ∧ k < n ∧ pickF c n = (k : Int) ∧ w = w' :=
 (pick7_c c n w hc (by omega) (by omega)).mono fun e w' ⟨he, hw⟩ => by
  have hb := pickF_bd (c := c) (n := (n : Int)) (by omega)
  obtain ⟨k, hk⟩ : ∃ k : Nat, pickF c n = (k : Int) := ⟨(pickF c n).toNat, by omega⟩
  exact ⟨k, by rw [he, hk], by omega, hk, hw⟩
theorem pick8_c (c n : Int) (w : World) (hc : IsI c) (h0 : 0 < n) (h1 : n ≤ 100000000) : Calls Try.prog 42 #[.int .i64 c, .int .i64 n] w fun e w' => e = .returned (.int .i64 (pickF c n)) ∧ w = w' := by
  obtain ⟨h2, h3⟩ := hc
  by_cases h : c < 0
  · go_enter Try.func42, Try.ntmps42
    go_wp2
    go_ret
    exact ⟨ret_int (by rw [pickF_neg h, ← Int.neg_tmod, Int.tmod_eq_emod_of_nonneg (by omega)]), rfl⟩
  · have h' : 0 ≤ c := by omega
    go_enter Try.func42, Try.ntmps42
    go_wp2
    go_ret
    exact ⟨ret_int (by rw [pickF_pos h']), rfl⟩
theorem pick8_n (c : Int) (n : Nat) (w : World) (hc : IsI c) (h0 : 0 < n) (h1 : n ≤ 100000000) : Calls Try.prog 42 #[.int .i64 c, .int .i64 ((n : Nat) : Int)] w fun e w' => ∃ k : Nat, e = .returned (.int .i64 ((k : Nat) : Int)) ∧ k < n ∧ pickF c n = (k : Int) ∧ w = w' :=
 (pick8_c c n w hc (by omega) (by omega)).mono fun e w' ⟨he, hw⟩ => by
  have hb := pickF_bd (c := c) (n := (n : Int)) (by omega)
  obtain ⟨k, hk⟩ : ∃ k : Nat, pickF c n = (k : Int) := ⟨(pickF c n).toNat, by omega⟩
  exact ⟨k, by rw [he, hk], by omega, hk, hw⟩

end Go.Proofs.Ytdjjkhefdalokaa

/- The moves through a region that draws its order, one by one. -/
namespace Go.Proofs.Ytdjjkhefdalokaa
open Go.RowKit

section
variable {P : Program} {ops : Array Oper} {Q : Exit → Act → World → Prop} {md : Region.Mode} {S : World → Prop}
theorem at_drop {i : Nat} {o : Oper} {r : List Oper} (h : ops.toList.drop i = o :: r) : ops[i]? = some o := by
 rw [← Array.getElem?_toList, ← Nat.add_zero i, ← List.getElem?_drop, h]; rfl
/-- Operation number i may be taken first: it reads only. -/
theorem rg_take (i : Nat) {oi : Oper} {r : List Oper} {v : Value} {fuel : Nat} {listed : Array Bool} {a : Act} {w : World} (hi : ops.toList.drop i = oi :: r)
  (hs : Region.noSelect ops = true) (hf : Region.free md ops listed i = true) (hr : (Region.ready md ops listed).contains i = true)
  (hQ : ∀ c a w, Q (.panic c) (a.put oi.dst v) w → Q (.panic c) a w) (hw : Region.wanted oi (yielded ops a.tmps) = true) (hy : ∀ w, S w → (execOp a.eval oi).run P w = .ok (.value v) w) (hS : S w)
  (h : wpAnyH P md ops Q S fuel (listed.setIfInBounds i true) (a.put oi.dst v) w) : wpAnyH P md ops Q S (fuel + 1) listed a w :=
 wpAnyH_take (at_drop hi) hs hf hr hQ (.inl ⟨hw, hy⟩) hS h
/-- Operation number i, which alone may come up, is carried out. -/
theorem rg_step (i : Nat) {oi : Oper} {r : List Oper} {fuel : Nat} {listed : Array Bool} {a : Act} {w : World} (hi : ops.toList.drop i = oi :: r) (hr : Region.ready md ops listed = [i])
  (hw : Region.wanted oi (yielded ops a.tmps) = true)
  (h : ∀ K' : Act → World → Prop, Shut (∀ a w, S w → (S w → wpAnyH P md ops Q S fuel (listed.setIfInBounds i true) a w) → K' a w) → Oper.wp P oi a w K' Q) : wpAnyH P md ops Q S (fuel + 1) listed a w :=
 wpAnyH_ready hr (by simp) (AllReadyH.cons (at_drop hi) (fun K hK => by rw [if_pos hw]; exact h K hK) AllReadyH.nil)
end

end Go.Proofs.Ytdjjkhefdalokaa

/- Contracts of the reference of package globe: Empty, put, Same. -/
namespace Go.Proofs.Ytdjjkhefdalokaa
open Go.RowKit

theorem rEmpty_c (w : World) : Calls Try.prog 38 #[] w (RetA w Globe.zeroL) := by
 have hmk := make24
 go_enter Try.func38, Try.ntmps38
 go_wp2
 refine bodyPost_ret (v := .agg #[.slice (some ⟨w.heap.size + 1, 0, none⟩) 24 24]) (by simp [results, Try.results38, go_sem]) rfl ⟨w.heap.size + 1, rfl, by omega, ?_, by (repeat' (first | (with_reducible assumption) | (with_reducible exact Ext.refl _) | (with_reducible refine Ext.alloc ?_ _) | (with_reducible refine Ext.drew ?_) | (with_reducible refine Ext.drewN ?_ _) | (with_reducible refine Ext.setCell ?_ ?_ _) | (with_reducible refine Ext.trans ?_ (by assumption)) | go_size))⟩
 have := RowsAt.new (w.alloc (.cells #[.slice (some ⟨w.heap.size + 1, 0, none⟩) 24 24] 31)) Globe.zeroL 3 rfl
 rwa [World.size_alloc] at this

theorem modN_cases (x : Int) : (x.tmod 48 < 0 ∧ x.tmod 48 + 48 = (modN x : Int)) ∨ (0 ≤ x.tmod 48 ∧ x.tmod 48 = (modN x : Int)) := by
  unfold modN
  by_cases h : 0 ≤ x
  · rw [Int.tmod_eq_emod_of_nonneg h]; omega
  · obtain ⟨m, rfl⟩ : ∃ m : Int, x = -m := ⟨-x, by omega⟩
    rw [Int.neg_tmod, Int.tmod_eq_emod_of_nonneg (by omega)]; omega
theorem tmod_bd (x : Int) : -47 ≤ x.tmod 48 ∧ x.tmod 48 ≤ 47 := (modN_go x).2

set_option maxHeartbeats 1000000 in
theorem put_c (B c : Nat) (L : List Int) (x : Int) (y : Nat) (w : World) (h : RowsAt w B L) (hv : Globe.validL L = true) (hy : y < 24) :
  Calls Try.prog 40 #[.agg #[.slice (some ⟨B, 0, none⟩) 24 c], .int .i64 x, .int .i64 y] w fun e w' => (∃ v, e = .returned v) ∧ RowsAt w' B (Globe.putL L (modN x) y) ∧ w.grownBy w' (some B) := by
 have hm := modN_lt x
 have hBl := h.lt
 obtain ⟨K, hK⟩ : ∃ K, K = modN x := ⟨_, rfl⟩
 rw [← hK] at hm ⊢
 have hR := Globe.rowN_lt hv y
 have d3 : w.cell? ⟨B, y, none⟩ = some (.int .i64 (Globe.rowN L y : Nat)) := by rw [← Globe.rowN_cast hv]; exact h.cell hy
 have d4 := h.free hy
 obtain ⟨s0, s1, s2⟩ := p2_shl (n := K) (by omega)
 have s3 : bits .or .i64 (Globe.rowN L y : Nat) (p2 K : Nat) = ((Globe.rowN L y ||| p2 K : Nat) : Int) := or_i64 _ _ (by omega) (by omega)
 have y0 : (0 : Int) ≤ (y : Int) := by omega
 have y1 : (y : Int) < 24 := by omega
 have hput : L.set y ((Globe.rowN L y ||| p2 K : Nat) : Int) = Globe.putL L K y := rfl
 rw [← hput]
 clear s1 s2 hput hv
 have H := Lib.hid h; clear h
 generalize Globe.rowN L y ||| p2 K = RO at *
 rcases modN_cases x with ⟨m1, m2⟩ | ⟨m1, m2⟩
 all_goals
  obtain ⟨t0, t1⟩ := tmod_bd x
  rw [← hK] at m2
  clear hK
  go_enter Try.func40, Try.ntmps40
  go_wp2_with fail
  -- <<put
  refine wp_region_held_drew (S := fun w' => w'.cell? ⟨w.heap.size, 0, none⟩ = some (.slice (some ⟨B, 0, none⟩) 24 c)) (by kernel_rfl) (by simp [go_sem]) (fun hHeld => ?_)
  (refine rg_take 0 (v := ?_) rfl (by kernel_rfl) (by kernel_rfl) (by kernel_rfl) (fun _ _ _ h => h) (by kernel_rfl) ?_ (by with_reducible assumption) ?_; rotate_left; (focus (intro w hSw; (try dsimp only at hSw); go_simp; (try with_reducible rfl))); (try simp only [Act.put, List.setIfInBounds_toArray, List.set_cons_zero, List.set_cons_succ]))
  (refine rg_take 1 (v := ?_) rfl (by kernel_rfl) (by kernel_rfl) (by kernel_rfl) (fun _ _ _ h => h) (by kernel_rfl) ?_ (by with_reducible assumption) ?_; rotate_left; (focus (intro w hSw; (try dsimp only at hSw); go_simp; (try with_reducible rfl))); (try simp only [Act.put, List.setIfInBounds_toArray, List.set_cons_zero, List.set_cons_succ]))
  (refine rg_take 2 (v := ?_) rfl (by kernel_rfl) (by kernel_rfl) (by kernel_rfl) (fun _ _ _ h => h) (by kernel_rfl) ?_ (by with_reducible assumption) ?_; rotate_left; (focus (intro w hSw; (try dsimp only at hSw); go_simp; (try with_reducible rfl))); (try simp only [Act.put, List.setIfInBounds_toArray, List.set_cons_zero, List.set_cons_succ]))
  (refine rg_take 3 (v := ?_) rfl (by kernel_rfl) (by kernel_rfl) (by kernel_rfl) (fun _ _ _ h => h) (by kernel_rfl) ?_ (by with_reducible assumption) ?_; rotate_left; (focus (intro w hSw; (try dsimp only at hSw); go_simp; (try with_reducible rfl))); (try simp only [Act.put, List.setIfInBounds_toArray, List.set_cons_zero, List.set_cons_succ]))
  (refine rg_take 4 (v := ?_) rfl (by kernel_rfl) (by kernel_rfl) (by kernel_rfl) (fun _ _ _ h => h) (by kernel_rfl) ?_ (by with_reducible assumption) ?_; rotate_left; (focus (intro w hSw; (try dsimp only at hSw); go_simp; (try with_reducible rfl))); (try simp only [Act.put, List.setIfInBounds_toArray, List.set_cons_zero, List.set_cons_succ]))
  (refine rg_take 5 (v := ?_) rfl (by kernel_rfl) (by kernel_rfl) (by kernel_rfl) (fun _ _ _ h => h) (by kernel_rfl) ?_ (by with_reducible assumption) ?_; rotate_left; (focus (intro w hSw; (try dsimp only at hSw); go_simp; (try with_reducible rfl))); (try simp only [Act.put, List.setIfInBounds_toArray, List.set_cons_zero, List.set_cons_succ]))
  (refine rg_take 6 (v := ?_) rfl (by kernel_rfl) (by kernel_rfl) (by kernel_rfl) (fun _ _ _ h => h) (by kernel_rfl) ?_ (by with_reducible assumption) ?_; rotate_left; (focus (intro w hSw; (try dsimp only at hSw); go_simp; (try with_reducible rfl))); (try simp only [Act.put, List.setIfInBounds_toArray, List.set_cons_zero, List.set_cons_succ]))
  (refine rg_take 8 (v := ?_) rfl (by kernel_rfl) (by kernel_rfl) (by kernel_rfl) (fun _ _ _ h => h) (by kernel_rfl) ?_ (by with_reducible assumption) ?_; rotate_left; (focus (intro w hSw; (try dsimp only at hSw); go_simp; (try with_reducible rfl))); (try simp only [Act.put, List.setIfInBounds_toArray, List.set_cons_zero, List.set_cons_succ]))
  (refine rg_take 9 (v := ?_) rfl (by kernel_rfl) (by kernel_rfl) (by kernel_rfl) (fun _ _ _ h => h) (by kernel_rfl) ?_ (by with_reducible assumption) ?_; rotate_left; (focus (intro w hSw; (try dsimp only at hSw); go_simp; (try with_reducible rfl))); (try simp only [Act.put, List.setIfInBounds_toArray, List.set_cons_zero, List.set_cons_succ]))
  refine rg_step 7 rfl (by kernel_rfl) (by kernel_rfl) (fun K hK => ?_)
  (go_simp; skip; refine hK.out _ _ (hHeld) (fun hHeld => ?_); clear hK K; (try simp only [Act.put, List.setIfInBounds_toArray, List.set_cons_zero, List.set_cons_succ]))
  (refine rg_take 10 (v := ?_) rfl (by kernel_rfl) (by kernel_rfl) (by kernel_rfl) (fun _ _ _ h => h) (by kernel_rfl) ?_ (by with_reducible assumption) ?_; rotate_left; (focus (intro w hSw; (try dsimp only at hSw); go_simp; (try with_reducible rfl))); (try simp only [Act.put, List.setIfInBounds_toArray, List.set_cons_zero, List.set_cons_succ]))
  (refine rg_take 11 (v := ?_) rfl (by kernel_rfl) (by kernel_rfl) (by kernel_rfl) (fun _ _ _ h => h) (by kernel_rfl) ?_ (by with_reducible assumption) ?_; rotate_left; (focus (intro w hSw; (try dsimp only at hSw); go_simp; (try with_reducible rfl))); (try simp only [Act.put, List.setIfInBounds_toArray, List.set_cons_zero, List.set_cons_succ]))
  refine rg_step 12 rfl (by kernel_rfl) (by kernel_rfl) (fun K hK => ?_)
  (go_simp; skip; refine hK.out _ _ (by simp [go_sem]) (fun hHeld => ?_); clear hK K; (try simp only [Act.put, List.setIfInBounds_toArray, List.set_cons_zero, List.set_cons_succ]))
  refine wpAnyH_done (by kernel_rfl) ?_ _
  go_wp2
  go_end0
  exact ⟨⟨_, rfl⟩, ((H.out.set hy _).ext (Ext.alloc (Ext.refl _) _)).drew, grown_set (p := ⟨B, y, none⟩) rfl (Below.drew (Below.alloc (Below.refl _ _) (Nat.le_refl _) _))⟩
  -- >>

theorem ne_of_at9 {l1 l2 : List Int} {k : Nat} (h : Globe.nth l1 k ≠ Globe.nth l2 k) : decide (l1 = l2) = false := by
 rw [decide_eq_false_iff_not]; intro e; exact h (by rw [e])
set_option maxHeartbeats 1000000 in
theorem rSame_c {w1 w2 : World} {a1 : Option Addr} {l1 : List Int} {n1 : Nat} (c1 : Nat) {v1 : Bool} {a2 : Option Addr} {l2 : List Int} {n2 : Nat} (c2 : Nat) {v2 : Bool} (w : World) (h1 : AA w1 a1 l1 n1 v1) (e1 : Ext w1 w) (h2 : AA w2 a2 l2 n2 v2) (e2 : Ext w2 w) :
    Calls Try.prog 16 #[.agg #[.slice a1 n1 c1], .agg #[.slice a2 n2 c2]] w fun e w' => e = .returned (.bool (decide (l1 = l2))) ∧ Ext w w' := by
  replace h1 := h1.ext e1; replace h2 := h2.ext e2; clear e1 e2
  obtain ⟨i1, hn1, hl1, -⟩ := h1
  obtain ⟨i2, hn2, hl2, -⟩ := h2
  by_cases hne : n1 = n2
  · subst hne
    rcases Nat.eq_zero_or_pos n1 with h0 | h0
    · subst h0
      obtain rfl := List.length_eq_zero_iff.1 hn1
      obtain rfl := List.length_eq_zero_iff.1 hn2
      clear i1 i2 hn1 hn2 hl1 hl2
      go_enter Try.func16, Try.ntmps16
      go_wp2_with fail
      refine wp_loop_rounds 1 ?_
      rw [rounds_succ]
      go_wp2_with fail
      go_ret
      exact ⟨rfl, by (repeat' (first | (with_reducible assumption) | (with_reducible exact Ext.refl _) | (with_reducible refine Ext.alloc ?_ _) | (with_reducible refine Ext.drew ?_) | (with_reducible refine Ext.drewN ?_ _) | (with_reducible refine Ext.setCell ?_ ?_ _) | (with_reducible refine Ext.trans ?_ (by assumption)) | go_size))⟩
    · have e1 : ∃ b off, a1 = some ⟨b, off, none⟩ ∧ ∀ i, i < n1 → w.cell? ⟨b, off + i, none⟩ = some (.int .i64 (Globe.nth l1 i)) := by
        rcases i1 with rfl | ⟨b, off, rfl, h⟩
        · simp at hn1; omega
        · exact ⟨b, off, rfl, fun i hi => h i (by omega)⟩
      have e2 : ∃ b off, a2 = some ⟨b, off, none⟩ ∧ ∀ i, i < n1 → w.cell? ⟨b, off + i, none⟩ = some (.int .i64 (Globe.nth l2 i)) := by
        rcases i2 with rfl | ⟨b, off, rfl, h⟩
        · simp at hn2; omega
        · exact ⟨b, off, rfl, fun i hi => h i (by omega)⟩
      obtain ⟨b1, o1, rfl, r1⟩ := e1
      obtain ⟨b2, o2, rfl, r2⟩ := e2
      have R1 := Lib.hid r1; clear r1
      have R2 := Lib.hid r2; clear r2
      have Hn1 := Lib.hid hn1; clear hn1
      have Hn2 := Lib.hid hn2; clear hn2
      clear i1 i2 hl2
      go_enter Try.func16, Try.ntmps16
      go_wp2_with fail
      refine wp_name (fun V => Ext w V ∧ V.cell? ⟨w.heap.size, 0, none⟩ = some (.slice (some ⟨b1, o1, none⟩) n1 c1) ∧ V.cell? ⟨w.heap.size + 1, 0, none⟩ = some (.slice (some ⟨b2, o2, none⟩) n1 c2)) ⟨by (repeat' (first | (with_reducible assumption) | (with_reducible exact Ext.refl _) | (with_reducible refine Ext.alloc ?_ _) | (with_reducible refine Ext.drew ?_) | (with_reducible refine Ext.drewN ?_ _) | (with_reducible refine Ext.setCell ?_ ?_ _) | (with_reducible refine Ext.trans ?_ (by assumption)) | go_size)), by simp [go_sem], by simp [go_sem]⟩ ?_
      rintro V ⟨hV, k1, k2⟩
      go_loopw [5] (fun p wr => ∃ k : Nat, k ≤ n1 ∧ p = .int .i64 k ∧ Hid (∀ j, j < k → Globe.nth l1 j = Globe.nth l2 j) ∧ Ext V wr) (fun p _ => n1 - (intOf p).toNat)
      case atStart => exact ⟨0, by omega, rfl, fun j hj => by omega, Ext.refl _⟩
      case round =>
        obtain ⟨k, hk, rfl, Hp, hE⟩ := hrel
        replace k1 := hE.cell k1; replace k2 := hE.cell k2
        by_cases hlt : k < n1
        · have d1 : wr.cell? ⟨b1, o1 + k, none⟩ = some (.int .i64 (Globe.nth l1 k)) := hE.cell (hV.cell (R1.out k hlt))
          have d2 : wr.cell? ⟨b2, o2 + k, none⟩ = some (.int .i64 (Globe.nth l2 k)) := hE.cell (hV.cell (R2.out k hlt))
          have kk0 : (0 : Int) ≤ (k : Int) := by omega
          have kk1 : (k : Int) < (n1 : Int) := by omega
          generalize hx : Globe.nth l1 k = x at *
          generalize hy : Globe.nth l2 k = y at *
          have Hx := Lib.hid hx; clear hx
          have Hy := Lib.hid hy; clear hy
          by_cases hxy : x = y
          · subst hxy
            go_wp2_with fail
            go_quiet (fail)
            go_wp2_with fail
            go_roundw
            case rel => exact ⟨k + 1, by omega, by go_num, fun j hj => by
              rcases Nat.lt_or_ge j k with h | h
              · exact Hp.out j h
              · rw [show j = k by omega, Hx.out, Hy.out], by (repeat' (first | (with_reducible assumption) | (with_reducible exact Ext.refl _) | (with_reducible refine Ext.alloc ?_ _) | (with_reducible refine Ext.drew ?_) | (with_reducible refine Ext.drewN ?_ _) | (with_reducible refine Ext.setCell ?_ ?_ _) | (with_reducible refine Ext.trans ?_ (by assumption)) | go_size))⟩
            case measure => simp [intOf]; omega
          · go_wp2_with fail
            go_quiet (fail)
            go_wp2_with fail
            go_ret
            exact ⟨ret_bool (ne_of_at9 (k := k) (by rw [Hx.out, Hy.out]; exact hxy)).symm, by (repeat' (first | (with_reducible assumption) | (with_reducible exact Ext.refl _) | (with_reducible refine Ext.alloc ?_ _) | (with_reducible refine Ext.drew ?_) | (with_reducible refine Ext.drewN ?_ _) | (with_reducible refine Ext.setCell ?_ ?_ _) | (with_reducible refine Ext.trans ?_ (by assumption)) | go_size))⟩
        · obtain rfl : k = n1 := by omega
          go_wp2_with fail
          go_ret
          exact ⟨ret_bool (by rw [eq_comm, decide_eq_true_eq]; exact Globe.ext_nth (by rw [Hn1.out, Hn2.out]) fun j hj => Hp.out j (by rw [← Hn1.out]; exact hj)), by (repeat' (first | (with_reducible assumption) | (with_reducible exact Ext.refl _) | (with_reducible refine Ext.alloc ?_ _) | (with_reducible refine Ext.drew ?_) | (with_reducible refine Ext.drewN ?_ _) | (with_reducible refine Ext.setCell ?_ ?_ _) | (with_reducible refine Ext.trans ?_ (by assumption)) | go_size))⟩
  · have hd : decide (l1 = l2) = false := by
      rw [decide_eq_false_iff_not]; intro e; subst e; exact hne (by omega)
    have hni : ¬ (n1 : Int) = (n2 : Int) := by omega
    have Hd := Lib.hid hd; clear hd
    clear i1 i2 hn1 hn2
    go_enter Try.func16, Try.ntmps16
    go_wp2_with fail
    go_ret
    exact ⟨ret_bool (by rw [Hd.out]), by (repeat' (first | (with_reducible assumption) | (with_reducible exact Ext.refl _) | (with_reducible refine Ext.alloc ?_ _) | (with_reducible refine Ext.drew ?_) | (with_reducible refine Ext.drewN ?_ _) | (with_reducible refine Ext.setCell ?_ ?_ _) | (with_reducible refine Ext.trans ?_ (by assumption)) | go_size))⟩

end Go.Proofs.Ytdjjkhefdalokaa

/- The plain mathematics of the sun: noon, the season, the height. No program in sight. -/
namespace Go.Proofs.Ytdjjkhefdalokaa
namespace Sun

def minB (t : Int) : Bool := decide (0 ≤ t ∧ t ≤ 1000000)
theorem minB_t {t : Int} : minB t = true ↔ 0 ≤ t ∧ t ≤ 1000000 := by simp [minB]
theorem minB_f {t : Int} : minB t = false ↔ t < 0 ∨ 1000000 < t := by simp [minB]; omega

def noon (t : Int) : Int := (1440 - t % 1440) * 100 / 3 % 48000
def season (t : Int) : Int :=
 if t / 1440 % 360 ≤ 90 then 12000 + 100 * (t / 1440 % 360) / 3
 else if t / 1440 % 360 ≤ 270 then 12000 + 100 * (180 - t / 1440 % 360) / 3
 else 12000 + 100 * (t / 1440 % 360 - 360) / 3
theorem season_a {t : Int} (h : t / 1440 % 360 ≤ 90) : season t = 12000 + 100 * (t / 1440 % 360) / 3 := by rw [season, if_pos h]
theorem season_b {t : Int} (h : 90 < t / 1440 % 360) (h' : t / 1440 % 360 ≤ 270) : season t = 12000 + 100 * (180 - t / 1440 % 360) / 3 := by rw [season, if_neg (by omega), if_pos h']
theorem season_c {t : Int} (h : 270 < t / 1440 % 360) : season t = 12000 + 100 * (t / 1440 % 360 - 360) / 3 := by rw [season, if_neg (by omega), if_neg (by omega)]
def away (a b : Int) : Int := max (a - b) (b - a)
/-- The distance from noon, around. -/
def ac (x t : Int) : Int := min (away (1000 * x + 500) (noon t)) (48000 - away (1000 * x + 500) (noon t))
/-- The distance from the season. -/
def ds (y t : Int) : Int := away (1000 * y + 500) (season t)
def height (x y t : Int) : Int := max (-90) (90 - 75 * (ac x t + ds y t) / 10000)

theorem noon_bd {t : Int} (_h0 : 0 ≤ t) : 0 ≤ noon t ∧ noon t ≤ 47999 := by unfold noon; omega
theorem season_bd (t : Int) : 9000 ≤ season t ∧ season t ≤ 15000 := by unfold season; split <;> (try split) <;> omega
theorem away_bd {a b n : Int} (h1 : 0 ≤ a) (h2 : a ≤ n) (h3 : 0 ≤ b) (h4 : b ≤ n) : 0 ≤ away a b ∧ away a b ≤ n := by unfold away; omega
theorem ac_bd {x t : Int} (h0 : 0 ≤ t) (hx : 0 ≤ x) (hx' : x ≤ 47) : 0 ≤ ac x t ∧ ac x t ≤ 24000 := by
 have := noon_bd h0
 unfold ac away; omega
theorem ds_bd {y t : Int} (hy : 0 ≤ y) (hy' : y ≤ 23) : 0 ≤ ds y t ∧ ds y t ≤ 15000 := by
 have := season_bd t
 unfold ds away; omega
theorem height_bd {x y t : Int} (h0 : 0 ≤ t) (hx : 0 ≤ x) (hx' : x ≤ 47) (hy : 0 ≤ y) (hy' : y ≤ 23) : -90 ≤ height x y t ∧ height x y t ≤ 90 := by
 have := @ac_bd x t h0 hx hx'
 have := @ds_bd y t hy hy'
 unfold height; omega

def litB (x y t : Int) : Bool := minB t && Globe.vcB x y && decide (0 < height x y t)
/-- How many minutes are searched from t on. -/
def nmin (t : Int) : Nat := (min (1000000 - t) 1440 + 1).toNat
def upto (t : Int) (k : Nat) : List Int := (List.range k).map fun (i : Nat) => t + (i : Int)
/-- The first minute as asked for, of those searched. -/
def next (x y t : Int) (lit : Bool) : Int := ((upto t (nmin t)).find? fun k => litB x y k == lit).getD (-1)

end Sun
end Go.Proofs.Ytdjjkhefdalokaa

/- The heights of the sun above what an exposure shows. -/
namespace Go.Proofs.Ytdjjkhefdalokaa
namespace Swath
def hgt (o : Orb) (s : Int × Int) (lk d : Int) (i : Nat) : Int := Sun.height ((sx o lk (s.1 + ((i : Nat) : Int) - d) : Nat) : Int) ((Orb.cy o (s.1 + ((i : Nat) : Int) - d) : Nat) : Int) (s.1 + ((i : Nat) : Int))
def mm (o : Orb) (s : Int × Int) (lk d : Int) : Nat → Int × Int
 | 0 => (90, -90)
 | n + 1 => (min (mm o s lk d n).1 (hgt o s lk d n), max (mm o s lk d n).2 (hgt o s lk d n))
def sunF (A : Nat → Int × Int) : Nat → Int × Int
 | 0 => (0, 0)
 | 1 => A 0
 | k + 2 => (min (sunF A (k + 1)).1 (A (k + 1)).1, max (sunF A (k + 1)).2 (A (k + 1)).2)
theorem sunF_succ {A : Nat → Int × Int} {i : Nat} (h : 0 < i) : sunF A (i + 1) = (min (sunF A i).1 (A i).1, max (sunF A i).2 (A i).2) := by
 obtain ⟨k, rfl⟩ : ∃ k, i = k + 1 := ⟨i - 1, by omega⟩
 rfl
def sunJ (o : Orb) (s : Int × Int) (lk : Int) (j : Nat) : Int × Int := mm o s lk (-o.sl + ((j : Nat) : Int)) (s.2 - s.1).toNat
def suns (o : Orb) (s : Int × Int) (lk : Int) : Int × Int := sunF (sunJ o s lk) (lates o)
end Swath
end Go.Proofs.Ytdjjkhefdalokaa

/- The first exposure that shows an area. -/
namespace Go.Proofs.Ytdjjkhefdalokaa
namespace Swath
open Globe
/-- The least number below n that P has. -/
def firstQ (P : Nat → Bool) : Nat → Option Nat
 | 0 => none
 | n + 1 => match firstQ P n with
  | some r => some r
  | none => if P n then some n else none
def NoHit (P : Nat → Bool) (n : Nat) : Prop := ∀ r, r < n → P r = false
theorem noHit_0 (P : Nat → Bool) : NoHit P 0 := fun _ h => absurd h (Nat.not_lt_zero _)
theorem NoHit.next {P : Nat → Bool} {n : Nat} (h : NoHit P n) (hn : P n = false) : NoHit P (n + 1) := fun r hr => by
  rcases Nat.lt_or_ge r n with q | q
  · exact h r q
  · obtain rfl : r = n := by omega
    exact hn
theorem NoHit.le {P : Nat → Bool} {n k : Nat} (h : NoHit P n) (e : k = n) : NoHit P k := e ▸ h
theorem first_none {P : Nat → Bool} : ∀ {n : Nat}, NoHit P n → firstQ P n = none
 | 0, _ => rfl
 | n + 1, h => by
  unfold firstQ
  rw [first_none (n := n) (fun r hr => h r (by omega))]
  simp [h n (by omega)]
theorem first_some {P : Nat → Bool} {r : Nat} : ∀ {n : Nat}, NoHit P r → P r = true → r < n → firstQ P n = some r
  | n + 1, h, hr, hn => by
    unfold firstQ
    rcases Nat.lt_or_ge r n with q | q
    · rw [first_some h hr q]
    · obtain rfl : r = n := by omega
      rw [first_none h]; simp [hr]
where first_noHit {P : Nat → Bool} : ∀ {n : Nat}, firstQ P n = none → NoHit P n
 | 0, _ => noHit_0 P
 | n + 1, h => by
  unfold firstQ at h
  cases e : firstQ P n with
  | some x => rw [e] at h; cases h
  | none =>
   rw [e] at h
   simp only at h
   by_cases q : P n = true
   · rw [if_pos q] at h; cases h
   · exact (first_noHit e).next (by simpa using q)
/-- The looks in the order in which they are tried. -/
def lkQ (q : Nat) : Int := if q % 2 = 0 then ((q / 2 : Nat) : Int) else -((q / 2 : Nat) : Int)
theorem lk_even (k : Nat) : lkQ (2 * k + 0) = ((k : Nat) : Int) := by unfold lkQ; rw [if_pos (by omega)]; congr 1; omega
theorem lk_odd (k : Nat) : lkQ (2 * k + 1) = -((k : Nat) : Int) := by unfold lkQ; rw [if_neg (by omega)]; congr 2; omega
/-- Does the r-th exposure that is tried show the area? -/
def bestP (o : Orb) (sp : Int × Int) (mi : Int) (wd : Nat) (l : List Int) (r : Nat) : Bool :=
 showsB o (sp.1 + ((r / (2 * wd + 2) : Nat) : Int), sp.1 + ((r / (2 * wd + 2) : Nat) : Int) + mi) (lkQ (r % (2 * wd + 2))) l
theorem best_at {o : Orb} {sp : Int × Int} {mi : Int} {wd : Nat} {l : List Int} {j x : Nat} (hx : x < 2 * wd + 2) : bestP o sp mi wd l (j * (2 * wd + 2) + x) = showsB o (sp.1 + ((j : Nat) : Int), sp.1 + ((j : Nat) : Int) + mi) (lkQ x) l := by
 unfold bestP
 have h1 : (j * (2 * wd + 2) + x) / (2 * wd + 2) = j := by rw [Nat.mul_comm, Nat.mul_add_div (by omega), Nat.div_eq_of_lt hx, Nat.add_zero]
 have h2 : (j * (2 * wd + 2) + x) % (2 * wd + 2) = x := by rw [Nat.mul_comm, Nat.mul_add_mod, Nat.mod_eq_of_lt hx]
 rw [h1, h2]
def starts (sp : Int × Int) (mi : Int) : Nat := (sp.2 - sp.1 - mi + 1).toNat
def bestR (o : Orb) (sp : Int × Int) (mi : Int) (wd : Nat) (l : List Int) : Option Nat := firstQ (bestP o sp mi wd l) (starts sp mi * (2 * wd + 2))
def bestF (sp : Int × Int) (mi : Int) (wd : Nat) : Option Nat → (Int × Int) × Int × Bool
 | some r => ((sp.1 + ((r / (2 * wd + 2) : Nat) : Int), sp.1 + ((r / (2 * wd + 2) : Nat) : Int) + mi), lkQ (r % (2 * wd + 2)), true)
 | none => ((0, 0), 0, false)
def best (o : Orb) (sp : Int × Int) (mi : Int) (wd : Nat) (l : List Int) : (Int × Int) × Int × Bool := bestF sp mi wd (bestR o sp mi wd l)
theorem bestF_at {sp : Int × Int} {mi : Int} {wd j x : Nat} (hx : x < 2 * wd + 2) : bestF sp mi wd (some (j * (2 * wd + 2) + x)) = ((sp.1 + ((j : Nat) : Int), sp.1 + ((j : Nat) : Int) + mi), lkQ x, true) := by
 unfold bestF
 have h1 : (j * (2 * wd + 2) + x) / (2 * wd + 2) = j := by rw [Nat.mul_comm, Nat.mul_add_div (by omega), Nat.div_eq_of_lt hx, Nat.add_zero]
 have h2 : (j * (2 * wd + 2) + x) % (2 * wd + 2) = x := by rw [Nat.mul_comm, Nat.mul_add_mod, Nat.mod_eq_of_lt hx]
 simp only [h1, h2]
theorem best_hit {o : Orb} {sp : Int × Int} {mi : Int} {wd : Nat} {l : List Int} {j x : Nat} (hx : x < 2 * wd + 2) (hj : j < starts sp mi) (h : NoHit (bestP o sp mi wd l) (j * (2 * wd + 2) + x)) (hs : showsB o (sp.1 + ((j : Nat) : Int), sp.1 + ((j : Nat) : Int) + mi) (lkQ x) l = true) :
  best o sp mi wd l = ((sp.1 + ((j : Nat) : Int), sp.1 + ((j : Nat) : Int) + mi), lkQ x, true) := by
 unfold best bestR
 have hlt : j * (2 * wd + 2) + x < starts sp mi * (2 * wd + 2) := by
  have := Nat.mul_le_mul_right (2 * wd + 2) (show j + 1 ≤ starts sp mi from hj)
  rw [Nat.succ_mul] at this; omega
 rw [first_some h (by rw [best_at hx]; exact hs) hlt, bestF_at hx]
theorem best_no {o : Orb} {sp : Int × Int} {mi : Int} {wd : Nat} {l : List Int} (h : NoHit (bestP o sp mi wd l) (starts sp mi * (2 * wd + 2))) : best o sp mi wd l = ((0, 0), 0, false) := by
 unfold best bestR
 rw [first_none h]; rfl
end Swath
end Go.Proofs.Ytdjjkhefdalokaa

/- Contracts of the laws' helpers of chapter 8: strip, Shot, Made. -/
namespace Go.Proofs.Ytdjjkhefdalokaa
open Go.RowKit

namespace Swath
def stripL (x : Nat) (ys : List Nat) : List Int := ys.foldl (fun L y => L.set y ((2 ^ x : Nat) : Int)) Globe.zeroL
theorem strip_snoc {x : Nat} {ys : List Nat} {i y : Nat} (h : ys[i]? = some y) : stripL x (ys.take (i + 1)) = (stripL x (ys.take i)).set y ((2 ^ x : Nat) : Int) := by
 unfold stripL; rw [List.take_add_one, h]; simp
theorem ys_at {w : World} {a : Option Addr} {ys : List Nat} (h : IntsAt w a (ys.map fun y => ((y : Nat) : Int))) (hl : 0 < ys.length) : ∃ b off, a = some ⟨b, off, none⟩ ∧ ∀ i y, ys[i]? = some y → w.cell? ⟨b, off + i, none⟩ = some (.int .i64 ((y : Nat) : Int)) := by
  rcases h with h | ⟨b, off, rfl, h⟩
  · have := congrArg List.length h; simp at this; rw [this] at hl; simp at hl
  · refine ⟨b, off, rfl, fun i y hy => ?_⟩
    have hi := (List.getElem?_eq_some_iff.1 hy).1
    rw [h i (by simpa using hi), Globe.nth_lt (by simpa using hi)]
    obtain ⟨h1, h2⟩ := List.getElem?_eq_some_iff.1 hy
    simp [h2]
end Swath
set_option maxRecDepth 1000000 in
set_option maxHeartbeats 4000000 in
theorem strip_c {w1 : World} {x n c : Nat} {a : Option Addr} {ys : List Nat} (w : World) (hx : x < 48) (hA : IntsAt w1 a (ys.map fun y => ((y : Nat) : Int))) (hl : ys.length = n) (hn : n ≤ 24) (hyl : ∀ y ∈ ys, y < 24) (e1 : Ext w1 w) : Calls Try.prog 37 #[.int .i64 ((x : Nat) : Int), .slice a n c] w (RetA w (Swath.stripL x ys)) := by
 have hln := hl
 refine calls_cw 24 [(1, .slice a n c), (0, .int .i64 (((x : Nat) : Int) : Int))] Try.func37 rfl Try.ntmps37 (by kernel_rfl) (by kernel_rfl) (fun L => ?_)
 have hE : Ext w w := Ext.refl w
 refine cw_seq ?_; refine cw_plain ?_
 refine pS (sn_new (us := #[.slice none 0 0]) (t := 31) (by kernel_rfl) ?_)
 intro O1 X2 hzO1 hyO1 hb hbx; have bO1_0 := bx1 hbx; clear hbx
 replace hE := hE.trans hb; have hs3 := hb.size; clear hb; have lt4 := bO1_0.lt; refine pl_nil ?_; refine qw_then ?_; refine cw_seq ?_; refine cw_plain ?_
 refine pS (sn_call (f := 38) (args := #[]) (by kernel_rfl) ((rEmpty_c _).mono ?_))
 rintro e w8 ⟨B5, rfl, hn6, hr7, hb⟩
 replace hE := hE.trans hb; replace bO1_0 := BoxAt.ext hb bO1_0; have hs9 := hb.size; clear hb; have lt10 := hr7.lt
 refine ⟨_, rfl, ?_⟩
 refine pS (sn_new (us := #[.slice none 0 0]) (t := 31) (by kernel_rfl) ?_)
 intro O11 X12 hzO11 hyO11 hb hbx; have bO11_0 := bx1 hbx; clear hbx
 replace hE := hE.trans hb; replace bO1_0 := BoxAt.ext hb bO1_0; replace hr7 := hr7.ext hb; have hs13 := hb.size; clear hb; have lt14 := bO11_0.lt
 refine pP (sn_set (O := O11) (j := 0) (v := .slice (some ⟨B5, 0, none⟩) 24 24) (ex_store (p := .pointer (some ⟨O11, 0, none⟩)) (v := .agg #[.slice (some ⟨B5, 0, none⟩) 24 24]) rfl (by kernel_rfl) (by kernel_rfl) (st31 bO11_0.1 bO11_0.2)) bO11_0 ?_)
 intro X15 ho hv0 hk; replace hE := ho.ext hE (T (T hs3 hs9) (Nat.le_of_eq hzO11)); replace bO1_0 := ho.box (Nat.ne_of_gt (Nat.lt_of_lt_of_le lt4 (T hs9 (Nat.le_of_eq hzO11)))) bO1_0; replace hr7 := ho.rows (Nat.ne_of_gt (Nat.lt_of_lt_of_le lt10 (Nat.le_of_eq hzO11))) hr7; have hs16 : X12.heap.size ≤ X15.heap.size := Nat.le_of_eq ho.size.symm; clear ho hk bO11_0; have bO11_0 := hv0; clear hv0; refine pl_nil ?_; refine qw_then ?_; refine cw_seq ?_; refine cw_seq ?_; have hX17 : Ext X15 X15 := Ext.refl _; refine cw_plain ?_; refine pT (.int .i64 0) ?_; refine pl_nil ?_; refine qw_then ?_
 refine cw_block ?_
 have hI := hA.ext (e1.trans hE)
 have bO1_t18 := bO1_0
 have hrt19 := hr7
 have bO11_t20 := bO11_0
 refine cw_loop [0, 1, 4, 5, 6] (fun ws' wr m => ∃ i : Nat, ws' = [(0, .int .i64 (((x : Nat) : Int) : Int)), (1, .slice a n c), (4, .pointer (some ⟨O1, 0, none⟩)), (5, .pointer (some ⟨O11, 0, none⟩)), (6, .int .i64 (((i : Nat) : Int) : Int))] ∧ m = n - i ∧ X15.heap.size ≤ wr.heap.size ∧ Ext w wr ∧ BoxAt wr O1 0 (.slice none 0 0) ∧ BoxAt wr O11 0 (.slice (some ⟨B5, 0, none⟩) 24 24) ∧ RowsAt wr B5 (Swath.stripL x (ys.take i)) ∧ i ≤ n) (ws0 := [(0, .int .i64 (((x : Nat) : Int) : Int)), (1, .slice a n c), (4, .pointer (some ⟨O1, 0, none⟩)), (5, .pointer (some ⟨O11, 0, none⟩)), (6, .int .i64 0)]) (by kernel_rfl) _ ⟨0, rfl, rfl, Nat.le_refl _, hE, bO1_t18, bO11_t20, hrt19, by omega⟩ ?_
 clear bO1_t18 hrt19 bO11_t20 hE
 rintro m23 L ws w22 ⟨i, rfl, rfl, hs21, hE, bO1_t18, bO11_t20, hr9, hi⟩
 by_cases hlt : i < n
 ·
  obtain ⟨y, hy⟩ : ∃ y, ys[i]? = some y := ⟨_, List.getElem?_eq_getElem (by omega)⟩
  have hy24 := hyl y (List.mem_of_getElem? hy)
  obtain ⟨b, off, rfl, hc9⟩ := Swath.ys_at hA (by omega)
  have hcy := (e1.trans hE).cell (hc9 i y hy)
  have hsn := Swath.strip_snoc (x := x) hy
  have hbw : b < w.heap.size := World.block_lt_of_cell? _ _ (e1.cell (hc9 i y hy))
  have hX24 : Ext w22 w22 := Ext.refl _; refine cw_seq ?_; refine cw_seq ?_; refine cw_plain ?_; refine pT (.int .i64 (((i : Nat) : Int) : Int)) ?_; refine pT (.slice (some ⟨b, off, none⟩) n c) ?_; refine pT (.int .i64 (((n : Nat) : Int) : Int)) ?_
  refine pU (.bool true) (ev_dec (show _ = Result.ok (Next.value (Value.bool (decide ((((i : Nat) : Int) : Int) < (((n : Nat) : Int) : Int))))) _ from by kernel_rfl) (by omega)) ?_
  refine pl_nil ?_; refine qw_then ?_
  refine cw_t (by kernel_rfl) ?_
  refine cw_skip ?_
  refine qw_then ?_; refine cw_seq ?_
  refine cw_block ?_
  refine cw_draw [(some 14, [5], []), (some 15, [14], [0]), (some 16, [1], []), (some 17, [6], []), (some 18, [16, 17], [2, 3]), (some 19, [18], [4]), (some 20, [0], []), (some 21, [20], [6]), (some 22, [15, 19], [1, 5, 0, 1, 2, 3, 4, 5, 6, 7]), (none, [22, 21], [8, 7, 0, 1, 2, 3, 4, 5, 6, 7])] (fun w' => w'.cell? ⟨O11, 0, none⟩ = some (.slice (some ⟨B5, 0, none⟩) 24 24) ∧ w'.cell? ⟨b, off + i, none⟩ = some (.int .i64 (((y : Nat) : Int) : Int))) (by kernel_rfl) (by kernel_rfl) (by kernel_rfl) (by kernel_rfl) ((calm_block (calm_then (calm_then (calm_block (calm_then calm_body)))))) (⟨bO11_t20.1, hcy⟩) (fun ops Q X25 hb hL hR hK => ?_)
  replace hE := hE.trans hb; replace hX24 := hX24.trans hb; have hs26 := hb.size; clear hb
  have hS27 := And.intro ((BoxAt.ext hX24 bO11_t20).1) ((hX24.cell hcy))
  refine wT 0 (.pointer (some ⟨O11, 0, none⟩)) hR (fun w _ => by kernel_rfl) (hS27) ?_
  refine wT 1 (.slice (some ⟨B5, 0, none⟩) 24 24) hR (fun w hS => ex_load rfl (by kernel_rfl) (ld29 (hS.1))) (hS27) ?_
  refine wT 2 (.slice (some ⟨b, off, none⟩) n c) hR (fun w _ => by kernel_rfl) (hS27) ?_
  refine wT 3 (.int .i64 (((i : Nat) : Int) : Int)) hR (fun w _ => by kernel_rfl) (hS27) ?_
  refine wT 4 (.pointer (some ⟨b, off + i, none⟩)) hR (fun w _ => ex_index (p := .slice (some ⟨b, off, none⟩) n c) (i := .int .i64 ((i : Nat) : Int)) rfl (by kernel_rfl) (by kernel_rfl) (ix29 (k := i) (by omega))) (hS27) ?_
  refine wT 5 (.int .i64 (((y : Nat) : Int) : Int)) hR (fun w hS => ex_load rfl (by kernel_rfl) (ld3 (hS.2))) (hS27) ?_
  refine wT 6 (.int .i64 (((x : Nat) : Int) : Int)) hR (fun w _ => by kernel_rfl) (hS27) ?_
  refine wT 7 (.int .i64 (((2 ^ x : Nat) : Int) : Int)) hR (fun w _ => ex_bin rfl (by kernel_rfl) (by kernel_rfl) (bin_shl1 (by omega))) (hS27) ?_
  refine wT 8 (.pointer (some ⟨B5, y, none⟩)) hR (fun w _ => ex_index (p := .slice (some ⟨B5, 0, none⟩) 24 24) (i := .int .i64 ((y : Nat) : Int)) rfl (by kernel_rfl) (by kernel_rfl) (ix29z (k := y) (by omega))) (hS27) ?_
  have bO1_tt28 := (BoxAt.ext hX24 bO1_t18)
  have bO11_tt29 := (BoxAt.ext hX24 bO11_t20)
  have hrt30 := (hr9.ext hX24)
  have hcyt31 := (hX24.cell hcy)
  refine wS 9 hR (sn_row (g := B5) (y := y) (v := ((2 ^ x : Nat) : Int)) (ex_store (p := .pointer (some ⟨B5, y, none⟩)) (v := .int .i64 (((2 ^ x : Nat) : Int) : Int)) rfl (by kernel_rfl) (by kernel_rfl) (st3 (hrt30.cell (by omega)) (hrt30.free (by omega)))) hrt30 (by omega) ?_)
  intro X32 ho hv0; replace hE := ho.ext hE (T hs3 hn6); replace bO1_tt28 := ho.box (Nat.ne_of_gt (Nat.lt_of_lt_of_le lt4 hn6)) bO1_tt28; replace bO11_tt29 := ho.box (Nat.ne_of_lt (Nat.lt_of_lt_of_le lt10 (Nat.le_of_eq hzO11))) bO11_tt29; replace hcyt31 := ho.cell (Nat.ne_of_gt (Nat.lt_of_lt_of_le hbw (T hs3 hn6))) hcyt31; have hs33 : X25.heap.size ≤ X32.heap.size := Nat.le_of_eq ho.size.symm; clear ho hrt30; have hrt30 := hv0; clear hv0
  refine ⟨⟨bO11_tt29.1, hcyt31⟩, ?_⟩
  refine wd_end hL hR hK (by kernel_rfl) ?_
  refine qw_block ?_
  refine qw_then ?_; refine cC5 0 1 4 5 6 (fun L => ?_); have hX34 : Ext X32 X32 := Ext.refl _; refine cw_plain ?_; refine pT (.int .i64 (((i : Nat) : Int) : Int)) ?_
  refine pU (.int .i64 (((i + 1 : Nat) : Int) : Int)) (ev_wrap (by kernel_rfl) (by omega) (by omega)) ?_
  refine pT (.int .i64 (((i + 1 : Nat) : Int) : Int)) ?_; refine pl_nil ?_
  refine qw_round [0, 1, 4, 5, 6] (ws' := [(0, .int .i64 (((x : Nat) : Int) : Int)), (1, .slice (some ⟨b, off, none⟩) n c), (4, .pointer (some ⟨O1, 0, none⟩)), (5, .pointer (some ⟨O11, 0, none⟩)), (6, .int .i64 (((i + 1 : Nat) : Int) : Int))]) (by kernel_rfl) _ ?_ ⟨(i + 1), rfl, rfl, (T hs21 (T hs26 hs33)), hE, bO1_tt28, bO11_tt29, (by rw [hsn]; exact hrt30), by omega⟩
  omega
 ·
  have hin : i = n := by omega
  refine cw_seq ?_; refine cw_seq ?_; have hX35 : Ext w22 w22 := Ext.refl _; refine cw_plain ?_; refine pT (.int .i64 (((i : Nat) : Int) : Int)) ?_; refine pT (.slice a n c) ?_; refine pT (.int .i64 (((n : Nat) : Int) : Int)) ?_
  refine pU (.bool false) (ev_ndec (show _ = Result.ok (Next.value (Value.bool (decide ((((i : Nat) : Int) : Int) < (((n : Nat) : Int) : Int))))) _ from by kernel_rfl) (by omega)) ?_
  refine pl_nil ?_; refine qw_then ?_
  refine cw_f (by kernel_rfl) ?_
  refine cw_exit ?_
  refine qw_then_exit ?_
  refine qw_then_exit ?_
  refine qw_block_out ?_
  refine qw_then ?_; refine cw_seq ?_; refine cw_plain ?_
  refine pU (.agg #[.slice (some ⟨B5, 0, none⟩) 24 24]) (ex_load rfl (by kernel_rfl) (ld31 (bO11_t20.1))) ?_
  have bO1_tt37 := bO1_t18
  have bO11_tt38 := bO11_t20
  have hrt39 := hr9
  refine pP (sn_set (O := O1) (j := 0) (v := .slice (some ⟨B5, 0, none⟩) 24 24) (ex_store (p := .pointer (some ⟨O1, 0, none⟩)) (v := .agg #[.slice (some ⟨B5, 0, none⟩) 24 24]) rfl (by kernel_rfl) (by kernel_rfl) (st31 bO1_tt37.1 bO1_tt37.2)) bO1_tt37 ?_)
  intro X36 ho hv0 hk; replace hE := ho.ext hE (Nat.le_of_eq hzO1); replace bO11_tt38 := ho.box (Nat.ne_of_lt (Nat.lt_of_lt_of_le lt4 (T hs9 (Nat.le_of_eq hzO11)))) bO11_tt38; replace hrt39 := ho.rows (Nat.ne_of_lt (Nat.lt_of_lt_of_le lt4 hn6)) hrt39; have hs40 : w22.heap.size ≤ X36.heap.size := Nat.le_of_eq ho.size.symm; clear ho hk bO1_tt37; have bO1_tt37 := hv0; clear hv0; refine pl_nil ?_; refine qw_then ?_
  refine cw_ret ?_
  refine qw_ret [.agg #[.slice (some ⟨B5, 0, none⟩) 24 24]] rfl ⟨⟨_, by kernel_rfl, res_ld (ld31 (bO1_tt37.1))⟩, trivial⟩ ?_
  exact ⟨B5, rfl, (T hs3 hn6), by rw [show Swath.stripL x ys = Swath.stripL x (ys.take i) by rw [List.take_of_length_le (by omega)]]; exact hrt39, hE⟩
set_option maxRecDepth 1000000 in
set_option maxHeartbeats 4000000 in
theorem Shot_c (x0 x1 : Int) (w : World) (i0 : IsI x0) (i1 : IsI x1) : Calls Try.prog 12 #[.agg #[.int .i64 x0, .int .i64 x1]] w fun e w' => ∃ s : Int × Int, e = .returned (.agg #[.int .i64 s.1, .int .i64 s.2]) ∧ Swath.spB s 30 = true ∧ s.1 ≤ 2999 ∧ Ext w w' := by
 refine calls_cw 15 [(0, .agg #[.int .i64 x0, .int .i64 x1])] Try.func12 rfl Try.ntmps12 (by kernel_rfl) (by kernel_rfl) (fun L => ?_)
 have hE : Ext w w := Ext.refl w
 refine cw_seq ?_; refine cw_plain ?_
 refine pS (sn_new (us := #[.int .i64 x0, .int .i64 x1]) (t := 35) (by kernel_rfl) ?_)
 intro O1 X2 hzO1 hyO1 hb hbx; have ⟨bO1_0, bO1_1⟩ := bx2 hbx; clear hbx
 replace hE := hE.trans hb; have hs3 := hb.size; clear hb; have lt4 := bO1_0.lt
 refine pS (sn_new (us := #[.int .i64 0, .int .i64 0]) (t := 26) (by kernel_rfl) ?_)
 intro O5 X6 hzO5 hyO5 hb hbx; have ⟨bO5_0, bO5_1⟩ := bx2 hbx; clear hbx
 replace hE := hE.trans hb; replace bO1_0 := BoxAt.ext hb bO1_0; replace bO1_1 := BoxAt.ext hb bO1_1; have hs7 := hb.size; clear hb; have lt8 := bO5_0.lt; refine pl_nil ?_; refine qw_then ?_; refine cw_seq ?_; have hX9 : Ext X6 X6 := Ext.refl _; refine cw_plain ?_; refine pT (.pointer (some ⟨O1, 0, none⟩)) ?_
 refine pU (.int .i64 x0) (ex_load rfl (by kernel_rfl) (ld3 (bO1_0.1))) ?_
 refine pS (sn_call (f := 42) (args := #[.int .i64 x0, .int .i64 3000]) (by kernel_rfl) ((pick8_n _ (3000) _ i0 (by omega) (by omega)).mono ?_))
 rintro e w' ⟨pk10, rfl, pk10l, -, rfl⟩
 refine ⟨_, rfl, ?_⟩
 refine pT (.int .i64 (((pk10 : Nat) : Int) : Int)) ?_; refine pl_nil ?_; refine qw_then ?_; refine cw_seq ?_; refine cw_plain ?_; refine pT (.int .i64 (((pk10 : Nat) : Int) : Int)) ?_; refine pT (.int .i64 (((pk10 : Nat) : Int) : Int)) ?_
 refine pU (.int .i64 (((pk10 + 1 : Nat) : Int) : Int)) (ev_wrap (by kernel_rfl) (by omega) (by omega)) ?_
 refine pT (.pointer (some ⟨O1, 1, none⟩)) ?_
 refine pU (.int .i64 x1) (ex_load rfl (by kernel_rfl) (ld3 (bO1_1.1))) ?_
 refine pS (sn_call (f := 42) (args := #[.int .i64 x1, .int .i64 30]) (by kernel_rfl) ((pick8_n _ (30) _ i1 (by omega) (by omega)).mono ?_))
 rintro e w' ⟨pk11, rfl, pk11l, -, rfl⟩
 refine ⟨_, rfl, ?_⟩
 refine pU (.int .i64 ((((pk10 + 1) + pk11 : Nat) : Int) : Int)) (ev_wrap (by kernel_rfl) (by omega) (by omega)) ?_
 refine pT (.agg #[.int .i64 (((pk10 : Nat) : Int) : Int), .int .i64 ((((pk10 + 1) + pk11 : Nat) : Int) : Int)]) ?_
 have bO1_t13 := bO1_0
 have bO1_t14 := bO1_1
 have bO5_t15 := bO5_0
 have bO5_t16 := bO5_1
 refine pP (sn_set2 (O := O5) (j := 0) (v := .int .i64 (((pk10 : Nat) : Int) : Int)) (v' := .int .i64 ((((pk10 + 1) + pk11 : Nat) : Int) : Int)) (ex_store (p := .pointer (some ⟨O5, 0, none⟩)) (v := .agg #[.int .i64 (((pk10 : Nat) : Int) : Int), .int .i64 ((((pk10 + 1) + pk11 : Nat) : Int) : Int)]) rfl (by kernel_rfl) (by kernel_rfl) (st26 bO5_t15.1 bO5_t15.2 bO5_t16.1 bO5_t16.2)) bO5_t15 bO5_t16 ?_)
 intro X12 ho hv0 hv1 hk; replace hE := ho.ext hE (T hs3 (Nat.le_of_eq hzO5))
 have q9 := fun (j : Nat) (v : Value) (h : BoxAt _ O1 j v) => ho.box (Nat.ne_of_gt (Nat.lt_of_lt_of_le lt4 (Nat.le_of_eq hzO5))) h
 replace bO1_t13 := q9 _ _ bO1_t13; replace bO1_t14 := q9 _ _ bO1_t14; clear q9; have hs17 : X6.heap.size ≤ X12.heap.size := Nat.le_of_eq ho.size.symm; clear ho hk bO5_t15 bO5_t16; have bO5_t15 := hv0; clear hv0; have bO5_t16 := hv1; clear hv1; refine pl_nil ?_; refine qw_then ?_; refine cC1 2 (fun L => ?_)
 refine cw_ret ?_
 refine qw_ret [.agg #[.int .i64 (((pk10 : Nat) : Int) : Int), .int .i64 ((((pk10 + 1) + pk11 : Nat) : Int) : Int)]] rfl ⟨⟨_, by kernel_rfl, res_ld (ld26 (bO5_t15.1) (bO5_t16.1))⟩, trivial⟩ ?_
 exact ⟨(((pk10 : Nat) : Int), (((pk10 + 1) + pk11 : Nat) : Int)), rfl, Swath.spB_t.2 ⟨by simp only []; omega, by simp only []; omega, by simp only []; omega, by simp only []; omega⟩, by simp only []; omega, hE⟩
set_option maxRecDepth 1000000 in
set_option maxHeartbeats 4000000 in
theorem Made7_c (x0 x1 x2 x3 x4 x5 x6 : Int) (w : World) (i0 : IsI x0) (i1 : IsI x1) (i2 : IsI x2) (i3 : IsI x3) (i4 : IsI x4) (i5 : IsI x5) (i6 : IsI x6) : Calls Try.prog 11 #[.agg #[.int .i64 x0, .int .i64 x1, .int .i64 x2, .int .i64 x3, .int .i64 x4, .int .i64 x5, .int .i64 x6]] w fun e w' => ∃ o : Orb, e = .returned (.agg #[.int .i64 o.p, .int .i64 o.f, .int .i64 o.lo, .int .i64 o.hi, .int .i64 o.nd, .int .i64 o.tn, .int .i64 o.sl]) ∧ Orb.ok o = true ∧ o.sl ≤ 3 ∧ Ext w w' := by
 refine calls_cw 38 [(0, .agg #[.int .i64 x0, .int .i64 x1, .int .i64 x2, .int .i64 x3, .int .i64 x4, .int .i64 x5, .int .i64 x6])] Try.func11 rfl Try.ntmps11 (by kernel_rfl) (by kernel_rfl) (fun L => ?_)
 have hE : Ext w w := Ext.refl w
 refine cw_seq ?_; refine cw_plain ?_
 refine pS (sn_new (us := #[.int .i64 x0, .int .i64 x1, .int .i64 x2, .int .i64 x3, .int .i64 x4, .int .i64 x5, .int .i64 x6]) (t := 22) (by kernel_rfl) ?_)
 intro O1 X2 hzO1 hyO1 hb hbx; have ⟨bO1_0, bO1_1, bO1_2, bO1_3, bO1_4, bO1_5, bO1_6⟩ := bx7 hbx; clear hbx
 replace hE := hE.trans hb; have hs3 := hb.size; clear hb; have lt4 := bO1_0.lt
 refine pS (sn_new (us := #[.int .i64 0, .int .i64 0, .int .i64 0, .int .i64 0, .int .i64 0, .int .i64 0, .int .i64 0]) (t := 24) (by kernel_rfl) ?_)
 intro O5 X6 hzO5 hyO5 hb hbx; have ⟨bO5_0, bO5_1, bO5_2, bO5_3, bO5_4, bO5_5, bO5_6⟩ := bx7 hbx; clear hbx
 replace hE := hE.trans hb; replace bO1_0 := BoxAt.ext hb bO1_0; replace bO1_1 := BoxAt.ext hb bO1_1; replace bO1_2 := BoxAt.ext hb bO1_2; replace bO1_3 := BoxAt.ext hb bO1_3; replace bO1_4 := BoxAt.ext hb bO1_4; replace bO1_5 := BoxAt.ext hb bO1_5; replace bO1_6 := BoxAt.ext hb bO1_6; have hs7 := hb.size; clear hb; have lt8 := bO5_0.lt; refine pl_nil ?_; refine qw_then ?_; refine cw_seq ?_; have hX9 : Ext X6 X6 := Ext.refl _
 refine cw_join (fun ws' Y => ∃ pk13 : Nat, ∃ pk14 : Nat, ∃ pk15 : Nat, ∃ pk16 : Nat, ∃ pk17 : Nat, ∃ O18 : Nat, ws' = [(1, .pointer (some ⟨O1, 0, none⟩)), (2, .pointer (some ⟨O5, 0, none⟩)), (3, .pointer (some ⟨O18, 0, none⟩))] ∧ Ext w Y ∧ Ext X6 Y ∧ pk13 < 90 ∧ pk14 < 10000 ∧ pk15 < 48000 ∧ pk16 < 1601 ∧ pk17 < 4 ∧ BoxAt Y O18 0 (.int .i64 (((2 * (10 + pk13) : Nat) : Int) : Int)) ∧ BoxAt Y O18 1 (.int .i64 0) ∧ BoxAt Y O18 2 (.int .i64 (((pk14 : Nat) : Int) : Int)) ∧ BoxAt Y O18 3 (.int .i64 0) ∧ BoxAt Y O18 4 (.int .i64 (((pk15 : Nat) : Int) : Int)) ∧ BoxAt Y O18 5 (.int .i64 ((((pk16 : Nat) : Int)) - 800 : Int)) ∧ BoxAt Y O18 6 (.int .i64 (((pk17 : Nat) : Int) : Int)) ∧ X6.heap.size ≤ Y.heap.size ∧ X6.heap.size ≤ O18) (fun hJ => ?_) ?_
 ·
  refine cw_draw [(some 4, [1], []), (some 5, [4], [0]), (some 6, [5], [1]), (some 7, [6], [2]), (some 8, [7], [3]), (some 9, [1], []), (some 10, [9], [5]), (some 11, [10], [6, 2]), (some 12, [1], []), (some 13, [12], [8]), (some 14, [13], [9, 7]), (some 15, [1], []), (some 16, [15], [11]), (some 17, [16], [12, 10]), (some 18, [17], [13]), (some 19, [1], []), (some 20, [19], [15]), (some 21, [20], [16, 13]), (some 22, [8, 11, 14, 18, 21], [4, 7, 10, 14, 17]), (some 3, [], []), (none, [3, 22], [19, 18, 17, 0, 1, 2, 3, 4, 5, 6, 7, 8, 9, 10, 11, 12, 13, 14, 15, 16, 17, 18, 19])] (fun w' => w'.cell? ⟨O1, 0, none⟩ = some (.int .i64 x0) ∧ w'.cell? ⟨O1, 2, none⟩ = some (.int .i64 x2) ∧ w'.cell? ⟨O1, 4, none⟩ = some (.int .i64 x4) ∧ w'.cell? ⟨O1, 5, none⟩ = some (.int .i64 x5) ∧ w'.cell? ⟨O1, 6, none⟩ = some (.int .i64 x6)) (by kernel_rfl) (by kernel_rfl) (by kernel_rfl) (by kernel_rfl) ((calm_then calm_body)) (⟨bO1_0.1, bO1_2.1, bO1_4.1, bO1_5.1, bO1_6.1⟩) (fun ops Q X10 hb hL hR hK => ?_)
  replace hE := hE.trans hb; replace hX9 := hX9.trans hb; have hs11 := hb.size; clear hb
  have hS12 := And.intro ((BoxAt.ext hX9 bO1_0).1) (And.intro ((BoxAt.ext hX9 bO1_2).1) (And.intro ((BoxAt.ext hX9 bO1_4).1) (And.intro ((BoxAt.ext hX9 bO1_5).1) ((BoxAt.ext hX9 bO1_6).1))))
  refine wT 0 (.pointer (some ⟨O1, 0, none⟩)) hR (fun w _ => by kernel_rfl) (hS12) ?_
  refine wT 1 (.int .i64 x0) hR (fun w hS => ex_load rfl (by kernel_rfl) (ld3 (hS.1))) (hS12) ?_
  refine wT 5 (.pointer (some ⟨O1, 2, none⟩)) hR (fun w _ => by kernel_rfl) (hS12) ?_
  refine wT 6 (.int .i64 x2) hR (fun w hS => ex_load rfl (by kernel_rfl) (ld3 (hS.2.1))) (hS12) ?_
  refine wT 8 (.pointer (some ⟨O1, 4, none⟩)) hR (fun w _ => by kernel_rfl) (hS12) ?_
  refine wT 9 (.int .i64 x4) hR (fun w hS => ex_load rfl (by kernel_rfl) (ld3 (hS.2.2.1))) (hS12) ?_
  refine wT 11 (.pointer (some ⟨O1, 5, none⟩)) hR (fun w _ => by kernel_rfl) (hS12) ?_
  refine wT 12 (.int .i64 x5) hR (fun w hS => ex_load rfl (by kernel_rfl) (ld3 (hS.2.2.2.1))) (hS12) ?_
  refine wT 15 (.pointer (some ⟨O1, 6, none⟩)) hR (fun w _ => by kernel_rfl) (hS12) ?_
  refine wT 16 (.int .i64 x6) hR (fun w hS => ex_load rfl (by kernel_rfl) (ld3 (hS.2.2.2.2))) (hS12) ?_
  refine wd_two 2 19 hR rfl rfl (by kernel_rfl) (by kernel_rfl) (by kernel_rfl) (by kernel_rfl) ?_ ?_
  ·
   refine sn_call (f := 41) (args := #[.int .i64 x0, .int .i64 90]) (by kernel_rfl) ((pick7_n _ (90) _ i0 (by omega) (by omega)).mono ?_)
   rintro e w' ⟨pk13, rfl, pk13l, -, rfl⟩
   refine ⟨_, rfl, hS12, ?_⟩
   refine wT 3 (.int .i64 (((10 + pk13 : Nat) : Int) : Int)) hR (fun w _ => ev_wrap (by kernel_rfl) (by omega) (by omega)) (hS12) ?_
   refine wT 4 (.int .i64 (((2 * (10 + pk13) : Nat) : Int) : Int)) hR (fun w _ => ev_wrap (by kernel_rfl) (by omega) (by omega)) (hS12) ?_
   refine wd_two 7 19 hR rfl rfl (by kernel_rfl) (by kernel_rfl) (by kernel_rfl) (by kernel_rfl) ?_ ?_
   ·
    refine sn_call (f := 41) (args := #[.int .i64 x2, .int .i64 10000]) (by kernel_rfl) ((pick7_n _ (10000) _ i2 (by omega) (by omega)).mono ?_)
    rintro e w' ⟨pk14, rfl, pk14l, -, rfl⟩
    refine ⟨_, rfl, hS12, ?_⟩
    refine wd_two 10 19 hR rfl rfl (by kernel_rfl) (by kernel_rfl) (by kernel_rfl) (by kernel_rfl) ?_ ?_
    ·
     refine sn_call (f := 41) (args := #[.int .i64 x4, .int .i64 48000]) (by kernel_rfl) ((pick7_n _ (48000) _ i4 (by omega) (by omega)).mono ?_)
     rintro e w' ⟨pk15, rfl, pk15l, -, rfl⟩
     refine ⟨_, rfl, hS12, ?_⟩
     refine wd_two 13 19 hR rfl rfl (by kernel_rfl) (by kernel_rfl) (by kernel_rfl) (by kernel_rfl) ?_ ?_
     ·
      refine sn_call (f := 41) (args := #[.int .i64 x5, .int .i64 1601]) (by kernel_rfl) ((pick7_n _ (1601) _ i5 (by omega) (by omega)).mono ?_)
      rintro e w' ⟨pk16, rfl, pk16l, -, rfl⟩
      refine ⟨_, rfl, hS12, ?_⟩
      refine wT 14 (.int .i64 ((((pk16 : Nat) : Int)) - 800 : Int)) hR (fun w _ => ev_wrap (by kernel_rfl) (by omega) (by omega)) (hS12) ?_
      refine wd_two 17 19 hR rfl rfl (by kernel_rfl) (by kernel_rfl) (by kernel_rfl) (by kernel_rfl) ?_ ?_
      ·
       refine sn_call (f := 41) (args := #[.int .i64 x6, .int .i64 4]) (by kernel_rfl) ((pick7_n _ (4) _ i6 (by omega) (by omega)).mono ?_)
       rintro e w' ⟨pk17, rfl, pk17l, -, rfl⟩
       refine ⟨_, rfl, hS12, ?_⟩
       refine wT 18 (.agg #[.int .i64 (((2 * (10 + pk13) : Nat) : Int) : Int), .int .i64 0, .int .i64 (((pk14 : Nat) : Int) : Int), .int .i64 0, .int .i64 (((pk15 : Nat) : Int) : Int), .int .i64 ((((pk16 : Nat) : Int)) - 800 : Int), .int .i64 (((pk17 : Nat) : Int) : Int)]) hR (fun w _ => by kernel_rfl) (hS12) ?_
       refine wS 19 hR (sn_new (us := #[.int .i64 0, .int .i64 0, .int .i64 0, .int .i64 0, .int .i64 0, .int .i64 0, .int .i64 0]) (t := 24) (by kernel_rfl) ?_)
       intro O18 X19 hzO18 hyO18 hb hbx; have ⟨bO18_0, bO18_1, bO18_2, bO18_3, bO18_4, bO18_5, bO18_6⟩ := bx7 hbx; clear hbx
       replace hE := hE.trans hb; replace hX9 := hX9.trans hb; have hs20 := hb.size; clear hb; have lt21 := bO18_0.lt
       have hS22 := And.intro ((BoxAt.ext hX9 bO1_0).1) (And.intro ((BoxAt.ext hX9 bO1_2).1) (And.intro ((BoxAt.ext hX9 bO1_4).1) (And.intro ((BoxAt.ext hX9 bO1_5).1) ((BoxAt.ext hX9 bO1_6).1))))
       refine ⟨hS22, ?_⟩
       refine wS 20 hR (sn_setK7 (O := O18) (j := 0) (v0 := .int .i64 (((2 * (10 + pk13) : Nat) : Int) : Int)) (v1 := .int .i64 0) (v2 := .int .i64 (((pk14 : Nat) : Int) : Int)) (v3 := .int .i64 0) (v4 := .int .i64 (((pk15 : Nat) : Int) : Int)) (v5 := .int .i64 ((((pk16 : Nat) : Int)) - 800 : Int)) (v6 := .int .i64 (((pk17 : Nat) : Int) : Int)) (ex_store (p := .pointer (some ⟨O18, 0, none⟩)) (v := .agg #[.int .i64 (((2 * (10 + pk13) : Nat) : Int) : Int), .int .i64 0, .int .i64 (((pk14 : Nat) : Int) : Int), .int .i64 0, .int .i64 (((pk15 : Nat) : Int) : Int), .int .i64 ((((pk16 : Nat) : Int)) - 800 : Int), .int .i64 (((pk17 : Nat) : Int) : Int)]) rfl (by kernel_rfl) (by kernel_rfl) (st24 bO18_0.1 bO18_0.2 bO18_1.1 bO18_1.2 bO18_2.1 bO18_2.2 bO18_3.1 bO18_3.2 bO18_4.1 bO18_4.2 bO18_5.1 bO18_5.2 bO18_6.1 bO18_6.2)) bO18_0 bO18_1 bO18_2 bO18_3 bO18_4 bO18_5 bO18_6 ?_)
       intro X23 ho hv0 hv1 hv2 hv3 hv4 hv5 hv6 hk; replace hE := ho.ext hE (T (T hs3 (T hs7 hs11)) (Nat.le_of_eq hzO18)); replace hX9 := ho.ext hX9 (T hs11 (Nat.le_of_eq hzO18)); have hs24 : X19.heap.size ≤ X23.heap.size := Nat.le_of_eq ho.size.symm; clear ho hk bO18_0 bO18_1 bO18_2 bO18_3 bO18_4 bO18_5 bO18_6; have bO18_0 := hv0; clear hv0; have bO18_1 := hv1; clear hv1; have bO18_2 := hv2; clear hv2; have bO18_3 := hv3; clear hv3; have bO18_4 := hv4; clear hv4; have bO18_5 := hv5; clear hv5; have bO18_6 := hv6; clear hv6
       have hS25 := And.intro ((BoxAt.ext hX9 bO1_0).1) (And.intro ((BoxAt.ext hX9 bO1_2).1) (And.intro ((BoxAt.ext hX9 bO1_4).1) (And.intro ((BoxAt.ext hX9 bO1_5).1) ((BoxAt.ext hX9 bO1_6).1))))
       refine ⟨hS25, ?_⟩
       refine wd_end hL hR hK (by kernel_rfl) ?_
       exact qw_leaf hJ [1, 2, 3] (ws' := [(1, .pointer (some ⟨O1, 0, none⟩)), (2, .pointer (some ⟨O5, 0, none⟩)), (3, .pointer (some ⟨O18, 0, none⟩))]) (by kernel_rfl) ⟨pk13, pk14, pk15, pk16, pk17, O18, rfl, hE, hX9, pk13l, pk14l, pk15l, pk16l, pk17l, bO18_0, bO18_1, bO18_2, bO18_3, bO18_4, bO18_5, bO18_6, (T hs11 (T hs20 hs24)), (T hs11 (Nat.le_of_eq hzO18))⟩
      ·
       refine sn_new (us := #[.int .i64 0, .int .i64 0, .int .i64 0, .int .i64 0, .int .i64 0, .int .i64 0, .int .i64 0]) (t := 24) (by kernel_rfl) ?_
       intro O26 X27 hzO26 hyO26 hb hbx; have ⟨bO26_0, bO26_1, bO26_2, bO26_3, bO26_4, bO26_5, bO26_6⟩ := bx7 hbx; clear hbx
       replace hE := hE.trans hb; replace hX9 := hX9.trans hb; have hs28 := hb.size; clear hb; have lt29 := bO26_0.lt
       have hS30 := And.intro ((BoxAt.ext hX9 bO1_0).1) (And.intro ((BoxAt.ext hX9 bO1_2).1) (And.intro ((BoxAt.ext hX9 bO1_4).1) (And.intro ((BoxAt.ext hX9 bO1_5).1) ((BoxAt.ext hX9 bO1_6).1))))
       refine ⟨hS30, ?_⟩
       refine wS 17 hR (sn_call (f := 41) (args := #[.int .i64 x6, .int .i64 4]) (by kernel_rfl) ((pick7_n _ (4) _ i6 (by omega) (by omega)).mono ?_))
       rintro e w' ⟨pk31, rfl, pk31l, -, rfl⟩
       refine ⟨_, rfl, hS30, ?_⟩
       refine wT 18 (.agg #[.int .i64 (((2 * (10 + pk13) : Nat) : Int) : Int), .int .i64 0, .int .i64 (((pk14 : Nat) : Int) : Int), .int .i64 0, .int .i64 (((pk15 : Nat) : Int) : Int), .int .i64 ((((pk16 : Nat) : Int)) - 800 : Int), .int .i64 (((pk31 : Nat) : Int) : Int)]) hR (fun w _ => by kernel_rfl) (hS30) ?_
       refine wS 20 hR (sn_setK7 (O := O26) (j := 0) (v0 := .int .i64 (((2 * (10 + pk13) : Nat) : Int) : Int)) (v1 := .int .i64 0) (v2 := .int .i64 (((pk14 : Nat) : Int) : Int)) (v3 := .int .i64 0) (v4 := .int .i64 (((pk15 : Nat) : Int) : Int)) (v5 := .int .i64 ((((pk16 : Nat) : Int)) - 800 : Int)) (v6 := .int .i64 (((pk31 : Nat) : Int) : Int)) (ex_store (p := .pointer (some ⟨O26, 0, none⟩)) (v := .agg #[.int .i64 (((2 * (10 + pk13) : Nat) : Int) : Int), .int .i64 0, .int .i64 (((pk14 : Nat) : Int) : Int), .int .i64 0, .int .i64 (((pk15 : Nat) : Int) : Int), .int .i64 ((((pk16 : Nat) : Int)) - 800 : Int), .int .i64 (((pk31 : Nat) : Int) : Int)]) rfl (by kernel_rfl) (by kernel_rfl) (st24 bO26_0.1 bO26_0.2 bO26_1.1 bO26_1.2 bO26_2.1 bO26_2.2 bO26_3.1 bO26_3.2 bO26_4.1 bO26_4.2 bO26_5.1 bO26_5.2 bO26_6.1 bO26_6.2)) bO26_0 bO26_1 bO26_2 bO26_3 bO26_4 bO26_5 bO26_6 ?_)
       intro X32 ho hv0 hv1 hv2 hv3 hv4 hv5 hv6 hk; replace hE := ho.ext hE (T (T hs3 (T hs7 hs11)) (Nat.le_of_eq hzO26)); replace hX9 := ho.ext hX9 (T hs11 (Nat.le_of_eq hzO26)); have hs33 : X27.heap.size ≤ X32.heap.size := Nat.le_of_eq ho.size.symm; clear ho hk bO26_0 bO26_1 bO26_2 bO26_3 bO26_4 bO26_5 bO26_6; have bO26_0 := hv0; clear hv0; have bO26_1 := hv1; clear hv1; have bO26_2 := hv2; clear hv2; have bO26_3 := hv3; clear hv3; have bO26_4 := hv4; clear hv4; have bO26_5 := hv5; clear hv5; have bO26_6 := hv6; clear hv6
       have hS34 := And.intro ((BoxAt.ext hX9 bO1_0).1) (And.intro ((BoxAt.ext hX9 bO1_2).1) (And.intro ((BoxAt.ext hX9 bO1_4).1) (And.intro ((BoxAt.ext hX9 bO1_5).1) ((BoxAt.ext hX9 bO1_6).1))))
       refine ⟨hS34, ?_⟩
       refine wd_end hL hR hK (by kernel_rfl) ?_
       exact qw_leaf hJ [1, 2, 3] (ws' := [(1, .pointer (some ⟨O1, 0, none⟩)), (2, .pointer (some ⟨O5, 0, none⟩)), (3, .pointer (some ⟨O26, 0, none⟩))]) (by kernel_rfl) ⟨pk13, pk14, pk15, pk16, pk31, O26, rfl, hE, hX9, pk13l, pk14l, pk15l, pk16l, pk31l, bO26_0, bO26_1, bO26_2, bO26_3, bO26_4, bO26_5, bO26_6, (T hs11 (T hs28 hs33)), (T hs11 (Nat.le_of_eq hzO26))⟩
     ·
      refine sn_new (us := #[.int .i64 0, .int .i64 0, .int .i64 0, .int .i64 0, .int .i64 0, .int .i64 0, .int .i64 0]) (t := 24) (by kernel_rfl) ?_
      intro O35 X36 hzO35 hyO35 hb hbx; have ⟨bO35_0, bO35_1, bO35_2, bO35_3, bO35_4, bO35_5, bO35_6⟩ := bx7 hbx; clear hbx
      replace hE := hE.trans hb; replace hX9 := hX9.trans hb; have hs37 := hb.size; clear hb; have lt38 := bO35_0.lt
      have hS39 := And.intro ((BoxAt.ext hX9 bO1_0).1) (And.intro ((BoxAt.ext hX9 bO1_2).1) (And.intro ((BoxAt.ext hX9 bO1_4).1) (And.intro ((BoxAt.ext hX9 bO1_5).1) ((BoxAt.ext hX9 bO1_6).1))))
      refine ⟨hS39, ?_⟩
      refine wS 13 hR (sn_call (f := 41) (args := #[.int .i64 x5, .int .i64 1601]) (by kernel_rfl) ((pick7_n _ (1601) _ i5 (by omega) (by omega)).mono ?_))
      rintro e w' ⟨pk40, rfl, pk40l, -, rfl⟩
      refine ⟨_, rfl, hS39, ?_⟩
      refine wT 14 (.int .i64 ((((pk40 : Nat) : Int)) - 800 : Int)) hR (fun w _ => ev_wrap (by kernel_rfl) (by omega) (by omega)) (hS39) ?_
      refine wS 17 hR (sn_call (f := 41) (args := #[.int .i64 x6, .int .i64 4]) (by kernel_rfl) ((pick7_n _ (4) _ i6 (by omega) (by omega)).mono ?_))
      rintro e w' ⟨pk41, rfl, pk41l, -, rfl⟩
      refine ⟨_, rfl, hS39, ?_⟩
      refine wT 18 (.agg #[.int .i64 (((2 * (10 + pk13) : Nat) : Int) : Int), .int .i64 0, .int .i64 (((pk14 : Nat) : Int) : Int), .int .i64 0, .int .i64 (((pk15 : Nat) : Int) : Int), .int .i64 ((((pk40 : Nat) : Int)) - 800 : Int), .int .i64 (((pk41 : Nat) : Int) : Int)]) hR (fun w _ => by kernel_rfl) (hS39) ?_
      refine wS 20 hR (sn_setK7 (O := O35) (j := 0) (v0 := .int .i64 (((2 * (10 + pk13) : Nat) : Int) : Int)) (v1 := .int .i64 0) (v2 := .int .i64 (((pk14 : Nat) : Int) : Int)) (v3 := .int .i64 0) (v4 := .int .i64 (((pk15 : Nat) : Int) : Int)) (v5 := .int .i64 ((((pk40 : Nat) : Int)) - 800 : Int)) (v6 := .int .i64 (((pk41 : Nat) : Int) : Int)) (ex_store (p := .pointer (some ⟨O35, 0, none⟩)) (v := .agg #[.int .i64 (((2 * (10 + pk13) : Nat) : Int) : Int), .int .i64 0, .int .i64 (((pk14 : Nat) : Int) : Int), .int .i64 0, .int .i64 (((pk15 : Nat) : Int) : Int), .int .i64 ((((pk40 : Nat) : Int)) - 800 : Int), .int .i64 (((pk41 : Nat) : Int) : Int)]) rfl (by kernel_rfl) (by kernel_rfl) (st24 bO35_0.1 bO35_0.2 bO35_1.1 bO35_1.2 bO35_2.1 bO35_2.2 bO35_3.1 bO35_3.2 bO35_4.1 bO35_4.2 bO35_5.1 bO35_5.2 bO35_6.1 bO35_6.2)) bO35_0 bO35_1 bO35_2 bO35_3 bO35_4 bO35_5 bO35_6 ?_)
      intro X42 ho hv0 hv1 hv2 hv3 hv4 hv5 hv6 hk; replace hE := ho.ext hE (T (T hs3 (T hs7 hs11)) (Nat.le_of_eq hzO35)); replace hX9 := ho.ext hX9 (T hs11 (Nat.le_of_eq hzO35)); have hs43 : X36.heap.size ≤ X42.heap.size := Nat.le_of_eq ho.size.symm; clear ho hk bO35_0 bO35_1 bO35_2 bO35_3 bO35_4 bO35_5 bO35_6; have bO35_0 := hv0; clear hv0; have bO35_1 := hv1; clear hv1; have bO35_2 := hv2; clear hv2; have bO35_3 := hv3; clear hv3; have bO35_4 := hv4; clear hv4; have bO35_5 := hv5; clear hv5; have bO35_6 := hv6; clear hv6
      have hS44 := And.intro ((BoxAt.ext hX9 bO1_0).1) (And.intro ((BoxAt.ext hX9 bO1_2).1) (And.intro ((BoxAt.ext hX9 bO1_4).1) (And.intro ((BoxAt.ext hX9 bO1_5).1) ((BoxAt.ext hX9 bO1_6).1))))
      refine ⟨hS44, ?_⟩
      refine wd_end hL hR hK (by kernel_rfl) ?_
      exact qw_leaf hJ [1, 2, 3] (ws' := [(1, .pointer (some ⟨O1, 0, none⟩)), (2, .pointer (some ⟨O5, 0, none⟩)), (3, .pointer (some ⟨O35, 0, none⟩))]) (by kernel_rfl) ⟨pk13, pk14, pk15, pk40, pk41, O35, rfl, hE, hX9, pk13l, pk14l, pk15l, pk40l, pk41l, bO35_0, bO35_1, bO35_2, bO35_3, bO35_4, bO35_5, bO35_6, (T hs11 (T hs37 hs43)), (T hs11 (Nat.le_of_eq hzO35))⟩
    ·
     refine sn_new (us := #[.int .i64 0, .int .i64 0, .int .i64 0, .int .i64 0, .int .i64 0, .int .i64 0, .int .i64 0]) (t := 24) (by kernel_rfl) ?_
     intro O45 X46 hzO45 hyO45 hb hbx; have ⟨bO45_0, bO45_1, bO45_2, bO45_3, bO45_4, bO45_5, bO45_6⟩ := bx7 hbx; clear hbx
     replace hE := hE.trans hb; replace hX9 := hX9.trans hb; have hs47 := hb.size; clear hb; have lt48 := bO45_0.lt
     have hS49 := And.intro ((BoxAt.ext hX9 bO1_0).1) (And.intro ((BoxAt.ext hX9 bO1_2).1) (And.intro ((BoxAt.ext hX9 bO1_4).1) (And.intro ((BoxAt.ext hX9 bO1_5).1) ((BoxAt.ext hX9 bO1_6).1))))
     refine ⟨hS49, ?_⟩
     refine wS 10 hR (sn_call (f := 41) (args := #[.int .i64 x4, .int .i64 48000]) (by kernel_rfl) ((pick7_n _ (48000) _ i4 (by omega) (by omega)).mono ?_))
     rintro e w' ⟨pk50, rfl, pk50l, -, rfl⟩
     refine ⟨_, rfl, hS49, ?_⟩
     refine wS 13 hR (sn_call (f := 41) (args := #[.int .i64 x5, .int .i64 1601]) (by kernel_rfl) ((pick7_n _ (1601) _ i5 (by omega) (by omega)).mono ?_))
     rintro e w' ⟨pk51, rfl, pk51l, -, rfl⟩
     refine ⟨_, rfl, hS49, ?_⟩
     refine wT 14 (.int .i64 ((((pk51 : Nat) : Int)) - 800 : Int)) hR (fun w _ => ev_wrap (by kernel_rfl) (by omega) (by omega)) (hS49) ?_
     refine wS 17 hR (sn_call (f := 41) (args := #[.int .i64 x6, .int .i64 4]) (by kernel_rfl) ((pick7_n _ (4) _ i6 (by omega) (by omega)).mono ?_))
     rintro e w' ⟨pk52, rfl, pk52l, -, rfl⟩
     refine ⟨_, rfl, hS49, ?_⟩
     refine wT 18 (.agg #[.int .i64 (((2 * (10 + pk13) : Nat) : Int) : Int), .int .i64 0, .int .i64 (((pk14 : Nat) : Int) : Int), .int .i64 0, .int .i64 (((pk50 : Nat) : Int) : Int), .int .i64 ((((pk51 : Nat) : Int)) - 800 : Int), .int .i64 (((pk52 : Nat) : Int) : Int)]) hR (fun w _ => by kernel_rfl) (hS49) ?_
     refine wS 20 hR (sn_setK7 (O := O45) (j := 0) (v0 := .int .i64 (((2 * (10 + pk13) : Nat) : Int) : Int)) (v1 := .int .i64 0) (v2 := .int .i64 (((pk14 : Nat) : Int) : Int)) (v3 := .int .i64 0) (v4 := .int .i64 (((pk50 : Nat) : Int) : Int)) (v5 := .int .i64 ((((pk51 : Nat) : Int)) - 800 : Int)) (v6 := .int .i64 (((pk52 : Nat) : Int) : Int)) (ex_store (p := .pointer (some ⟨O45, 0, none⟩)) (v := .agg #[.int .i64 (((2 * (10 + pk13) : Nat) : Int) : Int), .int .i64 0, .int .i64 (((pk14 : Nat) : Int) : Int), .int .i64 0, .int .i64 (((pk50 : Nat) : Int) : Int), .int .i64 ((((pk51 : Nat) : Int)) - 800 : Int), .int .i64 (((pk52 : Nat) : Int) : Int)]) rfl (by kernel_rfl) (by kernel_rfl) (st24 bO45_0.1 bO45_0.2 bO45_1.1 bO45_1.2 bO45_2.1 bO45_2.2 bO45_3.1 bO45_3.2 bO45_4.1 bO45_4.2 bO45_5.1 bO45_5.2 bO45_6.1 bO45_6.2)) bO45_0 bO45_1 bO45_2 bO45_3 bO45_4 bO45_5 bO45_6 ?_)
     intro X53 ho hv0 hv1 hv2 hv3 hv4 hv5 hv6 hk; replace hE := ho.ext hE (T (T hs3 (T hs7 hs11)) (Nat.le_of_eq hzO45)); replace hX9 := ho.ext hX9 (T hs11 (Nat.le_of_eq hzO45)); have hs54 : X46.heap.size ≤ X53.heap.size := Nat.le_of_eq ho.size.symm; clear ho hk bO45_0 bO45_1 bO45_2 bO45_3 bO45_4 bO45_5 bO45_6; have bO45_0 := hv0; clear hv0; have bO45_1 := hv1; clear hv1; have bO45_2 := hv2; clear hv2; have bO45_3 := hv3; clear hv3; have bO45_4 := hv4; clear hv4; have bO45_5 := hv5; clear hv5; have bO45_6 := hv6; clear hv6
     have hS55 := And.intro ((BoxAt.ext hX9 bO1_0).1) (And.intro ((BoxAt.ext hX9 bO1_2).1) (And.intro ((BoxAt.ext hX9 bO1_4).1) (And.intro ((BoxAt.ext hX9 bO1_5).1) ((BoxAt.ext hX9 bO1_6).1))))
     refine ⟨hS55, ?_⟩
     refine wd_end hL hR hK (by kernel_rfl) ?_
     exact qw_leaf hJ [1, 2, 3] (ws' := [(1, .pointer (some ⟨O1, 0, none⟩)), (2, .pointer (some ⟨O5, 0, none⟩)), (3, .pointer (some ⟨O45, 0, none⟩))]) (by kernel_rfl) ⟨pk13, pk14, pk50, pk51, pk52, O45, rfl, hE, hX9, pk13l, pk14l, pk50l, pk51l, pk52l, bO45_0, bO45_1, bO45_2, bO45_3, bO45_4, bO45_5, bO45_6, (T hs11 (T hs47 hs54)), (T hs11 (Nat.le_of_eq hzO45))⟩
   ·
    refine sn_new (us := #[.int .i64 0, .int .i64 0, .int .i64 0, .int .i64 0, .int .i64 0, .int .i64 0, .int .i64 0]) (t := 24) (by kernel_rfl) ?_
    intro O56 X57 hzO56 hyO56 hb hbx; have ⟨bO56_0, bO56_1, bO56_2, bO56_3, bO56_4, bO56_5, bO56_6⟩ := bx7 hbx; clear hbx
    replace hE := hE.trans hb; replace hX9 := hX9.trans hb; have hs58 := hb.size; clear hb; have lt59 := bO56_0.lt
    have hS60 := And.intro ((BoxAt.ext hX9 bO1_0).1) (And.intro ((BoxAt.ext hX9 bO1_2).1) (And.intro ((BoxAt.ext hX9 bO1_4).1) (And.intro ((BoxAt.ext hX9 bO1_5).1) ((BoxAt.ext hX9 bO1_6).1))))
    refine ⟨hS60, ?_⟩
    refine wS 7 hR (sn_call (f := 41) (args := #[.int .i64 x2, .int .i64 10000]) (by kernel_rfl) ((pick7_n _ (10000) _ i2 (by omega) (by omega)).mono ?_))
    rintro e w' ⟨pk61, rfl, pk61l, -, rfl⟩
    refine ⟨_, rfl, hS60, ?_⟩
    refine wS 10 hR (sn_call (f := 41) (args := #[.int .i64 x4, .int .i64 48000]) (by kernel_rfl) ((pick7_n _ (48000) _ i4 (by omega) (by omega)).mono ?_))
    rintro e w' ⟨pk62, rfl, pk62l, -, rfl⟩
    refine ⟨_, rfl, hS60, ?_⟩
    refine wS 13 hR (sn_call (f := 41) (args := #[.int .i64 x5, .int .i64 1601]) (by kernel_rfl) ((pick7_n _ (1601) _ i5 (by omega) (by omega)).mono ?_))
    rintro e w' ⟨pk63, rfl, pk63l, -, rfl⟩
    refine ⟨_, rfl, hS60, ?_⟩
    refine wT 14 (.int .i64 ((((pk63 : Nat) : Int)) - 800 : Int)) hR (fun w _ => ev_wrap (by kernel_rfl) (by omega) (by omega)) (hS60) ?_
    refine wS 17 hR (sn_call (f := 41) (args := #[.int .i64 x6, .int .i64 4]) (by kernel_rfl) ((pick7_n _ (4) _ i6 (by omega) (by omega)).mono ?_))
    rintro e w' ⟨pk64, rfl, pk64l, -, rfl⟩
    refine ⟨_, rfl, hS60, ?_⟩
    refine wT 18 (.agg #[.int .i64 (((2 * (10 + pk13) : Nat) : Int) : Int), .int .i64 0, .int .i64 (((pk61 : Nat) : Int) : Int), .int .i64 0, .int .i64 (((pk62 : Nat) : Int) : Int), .int .i64 ((((pk63 : Nat) : Int)) - 800 : Int), .int .i64 (((pk64 : Nat) : Int) : Int)]) hR (fun w _ => by kernel_rfl) (hS60) ?_
    refine wS 20 hR (sn_setK7 (O := O56) (j := 0) (v0 := .int .i64 (((2 * (10 + pk13) : Nat) : Int) : Int)) (v1 := .int .i64 0) (v2 := .int .i64 (((pk61 : Nat) : Int) : Int)) (v3 := .int .i64 0) (v4 := .int .i64 (((pk62 : Nat) : Int) : Int)) (v5 := .int .i64 ((((pk63 : Nat) : Int)) - 800 : Int)) (v6 := .int .i64 (((pk64 : Nat) : Int) : Int)) (ex_store (p := .pointer (some ⟨O56, 0, none⟩)) (v := .agg #[.int .i64 (((2 * (10 + pk13) : Nat) : Int) : Int), .int .i64 0, .int .i64 (((pk61 : Nat) : Int) : Int), .int .i64 0, .int .i64 (((pk62 : Nat) : Int) : Int), .int .i64 ((((pk63 : Nat) : Int)) - 800 : Int), .int .i64 (((pk64 : Nat) : Int) : Int)]) rfl (by kernel_rfl) (by kernel_rfl) (st24 bO56_0.1 bO56_0.2 bO56_1.1 bO56_1.2 bO56_2.1 bO56_2.2 bO56_3.1 bO56_3.2 bO56_4.1 bO56_4.2 bO56_5.1 bO56_5.2 bO56_6.1 bO56_6.2)) bO56_0 bO56_1 bO56_2 bO56_3 bO56_4 bO56_5 bO56_6 ?_)
    intro X65 ho hv0 hv1 hv2 hv3 hv4 hv5 hv6 hk; replace hE := ho.ext hE (T (T hs3 (T hs7 hs11)) (Nat.le_of_eq hzO56)); replace hX9 := ho.ext hX9 (T hs11 (Nat.le_of_eq hzO56)); have hs66 : X57.heap.size ≤ X65.heap.size := Nat.le_of_eq ho.size.symm; clear ho hk bO56_0 bO56_1 bO56_2 bO56_3 bO56_4 bO56_5 bO56_6; have bO56_0 := hv0; clear hv0; have bO56_1 := hv1; clear hv1; have bO56_2 := hv2; clear hv2; have bO56_3 := hv3; clear hv3; have bO56_4 := hv4; clear hv4; have bO56_5 := hv5; clear hv5; have bO56_6 := hv6; clear hv6
    have hS67 := And.intro ((BoxAt.ext hX9 bO1_0).1) (And.intro ((BoxAt.ext hX9 bO1_2).1) (And.intro ((BoxAt.ext hX9 bO1_4).1) (And.intro ((BoxAt.ext hX9 bO1_5).1) ((BoxAt.ext hX9 bO1_6).1))))
    refine ⟨hS67, ?_⟩
    refine wd_end hL hR hK (by kernel_rfl) ?_
    exact qw_leaf hJ [1, 2, 3] (ws' := [(1, .pointer (some ⟨O1, 0, none⟩)), (2, .pointer (some ⟨O5, 0, none⟩)), (3, .pointer (some ⟨O56, 0, none⟩))]) (by kernel_rfl) ⟨pk13, pk61, pk62, pk63, pk64, O56, rfl, hE, hX9, pk13l, pk61l, pk62l, pk63l, pk64l, bO56_0, bO56_1, bO56_2, bO56_3, bO56_4, bO56_5, bO56_6, (T hs11 (T hs58 hs66)), (T hs11 (Nat.le_of_eq hzO56))⟩
  ·
   refine sn_new (us := #[.int .i64 0, .int .i64 0, .int .i64 0, .int .i64 0, .int .i64 0, .int .i64 0, .int .i64 0]) (t := 24) (by kernel_rfl) ?_
   intro O68 X69 hzO68 hyO68 hb hbx; have ⟨bO68_0, bO68_1, bO68_2, bO68_3, bO68_4, bO68_5, bO68_6⟩ := bx7 hbx; clear hbx
   replace hE := hE.trans hb; replace hX9 := hX9.trans hb; have hs70 := hb.size; clear hb; have lt71 := bO68_0.lt
   have hS72 := And.intro ((BoxAt.ext hX9 bO1_0).1) (And.intro ((BoxAt.ext hX9 bO1_2).1) (And.intro ((BoxAt.ext hX9 bO1_4).1) (And.intro ((BoxAt.ext hX9 bO1_5).1) ((BoxAt.ext hX9 bO1_6).1))))
   refine ⟨hS72, ?_⟩
   refine wS 2 hR (sn_call (f := 41) (args := #[.int .i64 x0, .int .i64 90]) (by kernel_rfl) ((pick7_n _ (90) _ i0 (by omega) (by omega)).mono ?_))
   rintro e w' ⟨pk73, rfl, pk73l, -, rfl⟩
   refine ⟨_, rfl, hS72, ?_⟩
   refine wT 3 (.int .i64 (((10 + pk73 : Nat) : Int) : Int)) hR (fun w _ => ev_wrap (by kernel_rfl) (by omega) (by omega)) (hS72) ?_
   refine wT 4 (.int .i64 (((2 * (10 + pk73) : Nat) : Int) : Int)) hR (fun w _ => ev_wrap (by kernel_rfl) (by omega) (by omega)) (hS72) ?_
   refine wS 7 hR (sn_call (f := 41) (args := #[.int .i64 x2, .int .i64 10000]) (by kernel_rfl) ((pick7_n _ (10000) _ i2 (by omega) (by omega)).mono ?_))
   rintro e w' ⟨pk74, rfl, pk74l, -, rfl⟩
   refine ⟨_, rfl, hS72, ?_⟩
   refine wS 10 hR (sn_call (f := 41) (args := #[.int .i64 x4, .int .i64 48000]) (by kernel_rfl) ((pick7_n _ (48000) _ i4 (by omega) (by omega)).mono ?_))
   rintro e w' ⟨pk75, rfl, pk75l, -, rfl⟩
   refine ⟨_, rfl, hS72, ?_⟩
   refine wS 13 hR (sn_call (f := 41) (args := #[.int .i64 x5, .int .i64 1601]) (by kernel_rfl) ((pick7_n _ (1601) _ i5 (by omega) (by omega)).mono ?_))
   rintro e w' ⟨pk76, rfl, pk76l, -, rfl⟩
   refine ⟨_, rfl, hS72, ?_⟩
   refine wT 14 (.int .i64 ((((pk76 : Nat) : Int)) - 800 : Int)) hR (fun w _ => ev_wrap (by kernel_rfl) (by omega) (by omega)) (hS72) ?_
   refine wS 17 hR (sn_call (f := 41) (args := #[.int .i64 x6, .int .i64 4]) (by kernel_rfl) ((pick7_n _ (4) _ i6 (by omega) (by omega)).mono ?_))
   rintro e w' ⟨pk77, rfl, pk77l, -, rfl⟩
   refine ⟨_, rfl, hS72, ?_⟩
   refine wT 18 (.agg #[.int .i64 (((2 * (10 + pk73) : Nat) : Int) : Int), .int .i64 0, .int .i64 (((pk74 : Nat) : Int) : Int), .int .i64 0, .int .i64 (((pk75 : Nat) : Int) : Int), .int .i64 ((((pk76 : Nat) : Int)) - 800 : Int), .int .i64 (((pk77 : Nat) : Int) : Int)]) hR (fun w _ => by kernel_rfl) (hS72) ?_
   refine wS 20 hR (sn_setK7 (O := O68) (j := 0) (v0 := .int .i64 (((2 * (10 + pk73) : Nat) : Int) : Int)) (v1 := .int .i64 0) (v2 := .int .i64 (((pk74 : Nat) : Int) : Int)) (v3 := .int .i64 0) (v4 := .int .i64 (((pk75 : Nat) : Int) : Int)) (v5 := .int .i64 ((((pk76 : Nat) : Int)) - 800 : Int)) (v6 := .int .i64 (((pk77 : Nat) : Int) : Int)) (ex_store (p := .pointer (some ⟨O68, 0, none⟩)) (v := .agg #[.int .i64 (((2 * (10 + pk73) : Nat) : Int) : Int), .int .i64 0, .int .i64 (((pk74 : Nat) : Int) : Int), .int .i64 0, .int .i64 (((pk75 : Nat) : Int) : Int), .int .i64 ((((pk76 : Nat) : Int)) - 800 : Int), .int .i64 (((pk77 : Nat) : Int) : Int)]) rfl (by kernel_rfl) (by kernel_rfl) (st24 bO68_0.1 bO68_0.2 bO68_1.1 bO68_1.2 bO68_2.1 bO68_2.2 bO68_3.1 bO68_3.2 bO68_4.1 bO68_4.2 bO68_5.1 bO68_5.2 bO68_6.1 bO68_6.2)) bO68_0 bO68_1 bO68_2 bO68_3 bO68_4 bO68_5 bO68_6 ?_)
   intro X78 ho hv0 hv1 hv2 hv3 hv4 hv5 hv6 hk; replace hE := ho.ext hE (T (T hs3 (T hs7 hs11)) (Nat.le_of_eq hzO68)); replace hX9 := ho.ext hX9 (T hs11 (Nat.le_of_eq hzO68)); have hs79 : X69.heap.size ≤ X78.heap.size := Nat.le_of_eq ho.size.symm; clear ho hk bO68_0 bO68_1 bO68_2 bO68_3 bO68_4 bO68_5 bO68_6; have bO68_0 := hv0; clear hv0; have bO68_1 := hv1; clear hv1; have bO68_2 := hv2; clear hv2; have bO68_3 := hv3; clear hv3; have bO68_4 := hv4; clear hv4; have bO68_5 := hv5; clear hv5; have bO68_6 := hv6; clear hv6
   have hS80 := And.intro ((BoxAt.ext hX9 bO1_0).1) (And.intro ((BoxAt.ext hX9 bO1_2).1) (And.intro ((BoxAt.ext hX9 bO1_4).1) (And.intro ((BoxAt.ext hX9 bO1_5).1) ((BoxAt.ext hX9 bO1_6).1))))
   refine ⟨hS80, ?_⟩
   refine wd_end hL hR hK (by kernel_rfl) ?_
   exact qw_leaf hJ [1, 2, 3] (ws' := [(1, .pointer (some ⟨O1, 0, none⟩)), (2, .pointer (some ⟨O5, 0, none⟩)), (3, .pointer (some ⟨O68, 0, none⟩))]) (by kernel_rfl) ⟨pk73, pk74, pk75, pk76, pk77, O68, rfl, hE, hX9, pk73l, pk74l, pk75l, pk76l, pk77l, bO68_0, bO68_1, bO68_2, bO68_3, bO68_4, bO68_5, bO68_6, (T hs11 (T hs70 hs79)), (T hs11 (Nat.le_of_eq hzO68))⟩
 ·
  clear hE hX9
  rintro L ws Y81 ⟨pk13, pk14, pk15, pk16, pk17, O18, rfl, hE, hX9, pk13l, pk14l, pk15l, pk16l, pk17l, bO18_0, bO18_1, bO18_2, bO18_3, bO18_4, bO18_5, bO18_6, hn82, hn83⟩
  have lt84 := bO18_0.lt; refine qw_then ?_; refine cw_seq ?_; have hX85 : Ext Y81 Y81 := Ext.refl _; refine cw_plain ?_; refine pT (.pointer (some ⟨O1, 1, none⟩)) ?_
  refine pU (.int .i64 x1) (ex_load rfl (by kernel_rfl) (ld3 ((BoxAt.ext (hX9.trans hX85) bO1_1).1))) ?_
  refine pT (.pointer (some ⟨O18, 0, none⟩)) ?_
  refine pU (.int .i64 (((2 * (10 + pk13) : Nat) : Int) : Int)) (ex_load rfl (by kernel_rfl) (ld3 (bO18_0.1))) ?_
  refine pS (sn_call (f := 41) (args := #[.int .i64 x1, .int .i64 (((2 * (10 + pk13) : Nat) : Int) : Int)]) (by kernel_rfl) ((pick7_n _ (2 * (10 + pk13)) _ i1 (by omega) (by omega)).mono ?_))
  rintro e w' ⟨pk86, rfl, pk86l, -, rfl⟩
  refine ⟨_, rfl, ?_⟩
  refine pT (.pointer (some ⟨O18, 1, none⟩)) ?_
  have bO18_t88 := bO18_0
  have bO18_t89 := bO18_1
  have bO18_t90 := bO18_2
  have bO18_t91 := bO18_3
  have bO18_t92 := bO18_4
  have bO18_t93 := bO18_5
  have bO18_t94 := bO18_6
  have hX95 := (hX9.trans hX85)
  refine pP (sn_set (O := O18) (j := 1) (v := .int .i64 (((pk86 : Nat) : Int) : Int)) (ex_store (p := .pointer (some ⟨O18, 1, none⟩)) (v := .int .i64 (((pk86 : Nat) : Int) : Int)) rfl (by kernel_rfl) (by kernel_rfl) (st3 bO18_t89.1 bO18_t89.2)) bO18_t89 ?_)
  intro X87 ho hv0 hk; replace hE := ho.ext hE (T (T hs3 hs7) hn83); replace hX95 := ho.ext hX95 hn83; replace bO18_t88 := hk 0 _ (by omega) bO18_t88; replace bO18_t90 := hk 2 _ (by omega) bO18_t90; replace bO18_t91 := hk 3 _ (by omega) bO18_t91; replace bO18_t92 := hk 4 _ (by omega) bO18_t92; replace bO18_t93 := hk 5 _ (by omega) bO18_t93; replace bO18_t94 := hk 6 _ (by omega) bO18_t94; have hs96 : Y81.heap.size ≤ X87.heap.size := Nat.le_of_eq ho.size.symm; clear ho hk bO18_t89; have bO18_t89 := hv0; clear hv0; refine pl_nil ?_; refine qw_then ?_; refine cw_seq ?_; have hX97 : Ext X87 X87 := Ext.refl _
  refine cw_draw [(some 29, [3], []), (some 30, [29], [0]), (some 31, [30], [1]), (some 32, [1], []), (some 33, [32], [3]), (some 34, [33], [4]), (some 35, [31, 34], [2, 5]), (some 36, [3], [0, 1, 2, 3, 4, 5, 6]), (none, [36, 35], [7, 6, 5, 0, 1, 2, 3, 4, 5, 6])] (fun w' => w'.cell? ⟨O18, 2, none⟩ = some (.int .i64 (((pk14 : Nat) : Int) : Int)) ∧ w'.cell? ⟨O1, 3, none⟩ = some (.int .i64 x3)) (by kernel_rfl) (by kernel_rfl) (by kernel_rfl) (by kernel_rfl) ((calm_then calm_body)) (⟨bO18_t90.1, (BoxAt.ext (hX95.trans hX97) bO1_3).1⟩) (fun ops Q X98 hb hL hR hK => ?_)
  replace hE := hE.trans hb; replace hX97 := hX97.trans hb; have hs99 := hb.size; clear hb
  have hS100 := And.intro ((BoxAt.ext hX97 bO18_t90).1) ((BoxAt.ext (hX95.trans hX97) bO1_3).1)
  refine wT 0 (.pointer (some ⟨O18, 2, none⟩)) hR (fun w _ => by kernel_rfl) (hS100) ?_
  refine wT 1 (.int .i64 (((pk14 : Nat) : Int) : Int)) hR (fun w hS => ex_load rfl (by kernel_rfl) (ld3 (hS.1))) (hS100) ?_
  refine wT 2 (.int .i64 (((pk14 + 4000 : Nat) : Int) : Int)) hR (fun w _ => ev_wrap (by kernel_rfl) (by omega) (by omega)) (hS100) ?_
  refine wT 3 (.pointer (some ⟨O1, 3, none⟩)) hR (fun w _ => by kernel_rfl) (hS100) ?_
  refine wT 4 (.int .i64 x3) hR (fun w hS => ex_load rfl (by kernel_rfl) (ld3 (hS.2))) (hS100) ?_
  refine wS 5 hR (sn_call (f := 41) (args := #[.int .i64 x3, .int .i64 10000]) (by kernel_rfl) ((pick7_n _ (10000) _ i3 (by omega) (by omega)).mono ?_))
  rintro e w' ⟨pk101, rfl, pk101l, -, rfl⟩
  refine ⟨_, rfl, hS100, ?_⟩
  refine wT 6 (.int .i64 ((((pk14 + 4000) + pk101 : Nat) : Int) : Int)) hR (fun w _ => ev_wrap (by kernel_rfl) (by omega) (by omega)) (hS100) ?_
  refine wT 7 (.pointer (some ⟨O18, 3, none⟩)) hR (fun w _ => by kernel_rfl) (hS100) ?_
  have bO18_tt103 := (BoxAt.ext hX97 bO18_t88)
  have bO18_tt104 := (BoxAt.ext hX97 bO18_t90)
  have bO18_tt105 := (BoxAt.ext hX97 bO18_t91)
  have bO18_tt106 := (BoxAt.ext hX97 bO18_t92)
  have bO18_tt107 := (BoxAt.ext hX97 bO18_t93)
  have bO18_tt108 := (BoxAt.ext hX97 bO18_t94)
  have bO18_tt109 := (BoxAt.ext hX97 bO18_t89)
  have hX110 := (hX95.trans hX97)
  refine wS 8 hR (sn_set (O := O18) (j := 3) (v := .int .i64 ((((pk14 + 4000) + pk101 : Nat) : Int) : Int)) (ex_store (p := .pointer (some ⟨O18, 3, none⟩)) (v := .int .i64 ((((pk14 + 4000) + pk101 : Nat) : Int) : Int)) rfl (by kernel_rfl) (by kernel_rfl) (st3 bO18_tt105.1 bO18_tt105.2)) bO18_tt105 ?_)
  intro X102 ho hv0 hk; replace hE := ho.ext hE (T (T hs3 hs7) hn83); replace hX110 := ho.ext hX110 hn83; replace bO18_tt103 := hk 0 _ (by omega) bO18_tt103; replace bO18_tt104 := hk 2 _ (by omega) bO18_tt104; replace bO18_tt106 := hk 4 _ (by omega) bO18_tt106; replace bO18_tt107 := hk 5 _ (by omega) bO18_tt107; replace bO18_tt108 := hk 6 _ (by omega) bO18_tt108; replace bO18_tt109 := hk 1 _ (by omega) bO18_tt109; have hs111 : X98.heap.size ≤ X102.heap.size := Nat.le_of_eq ho.size.symm; clear ho hk bO18_tt105; have bO18_tt105 := hv0; clear hv0
  have hS112 := And.intro (bO18_tt104.1) ((BoxAt.ext hX110 bO1_3).1)
  refine ⟨hS112, ?_⟩
  refine wd_end hL hR hK (by kernel_rfl) ?_
  refine qw_then ?_; refine cC2 2 3 (fun L => ?_); refine cw_seq ?_; have hX113 : Ext X102 X102 := Ext.refl _; refine cw_plain ?_
  refine pU (.agg #[.int .i64 (((2 * (10 + pk13) : Nat) : Int) : Int), .int .i64 (((pk86 : Nat) : Int) : Int), .int .i64 (((pk14 : Nat) : Int) : Int), .int .i64 ((((pk14 + 4000) + pk101 : Nat) : Int) : Int), .int .i64 (((pk15 : Nat) : Int) : Int), .int .i64 ((((pk16 : Nat) : Int)) - 800 : Int), .int .i64 (((pk17 : Nat) : Int) : Int)]) (ex_load rfl (by kernel_rfl) (ld24 (bO18_tt103.1) (bO18_tt109.1) (bO18_tt104.1) (bO18_tt105.1) (bO18_tt106.1) (bO18_tt107.1) (bO18_tt108.1))) ?_
  have bO1_t115 := (BoxAt.ext (hX110.trans hX113) bO1_0)
  have bO1_t116 := (BoxAt.ext (hX110.trans hX113) bO1_1)
  have bO1_t117 := (BoxAt.ext (hX110.trans hX113) bO1_2)
  have bO1_t118 := (BoxAt.ext (hX110.trans hX113) bO1_3)
  have bO1_t119 := (BoxAt.ext (hX110.trans hX113) bO1_4)
  have bO1_t120 := (BoxAt.ext (hX110.trans hX113) bO1_5)
  have bO1_t121 := (BoxAt.ext (hX110.trans hX113) bO1_6)
  have bO5_t122 := (BoxAt.ext (hX110.trans hX113) bO5_0)
  have bO5_t123 := (BoxAt.ext (hX110.trans hX113) bO5_1)
  have bO5_t124 := (BoxAt.ext (hX110.trans hX113) bO5_2)
  have bO5_t125 := (BoxAt.ext (hX110.trans hX113) bO5_3)
  have bO5_t126 := (BoxAt.ext (hX110.trans hX113) bO5_4)
  have bO5_t127 := (BoxAt.ext (hX110.trans hX113) bO5_5)
  have bO5_t128 := (BoxAt.ext (hX110.trans hX113) bO5_6)
  have bO18_ttt129 := bO18_tt103
  have bO18_ttt130 := bO18_tt104
  have bO18_ttt131 := bO18_tt106
  have bO18_ttt132 := bO18_tt107
  have bO18_ttt133 := bO18_tt108
  have bO18_ttt134 := bO18_tt109
  have bO18_ttt135 := bO18_tt105
  refine pP (sn_setK7 (O := O5) (j := 0) (v0 := .int .i64 (((2 * (10 + pk13) : Nat) : Int) : Int)) (v1 := .int .i64 (((pk86 : Nat) : Int) : Int)) (v2 := .int .i64 (((pk14 : Nat) : Int) : Int)) (v3 := .int .i64 ((((pk14 + 4000) + pk101 : Nat) : Int) : Int)) (v4 := .int .i64 (((pk15 : Nat) : Int) : Int)) (v5 := .int .i64 ((((pk16 : Nat) : Int)) - 800 : Int)) (v6 := .int .i64 (((pk17 : Nat) : Int) : Int)) (ex_store (p := .pointer (some ⟨O5, 0, none⟩)) (v := .agg #[.int .i64 (((2 * (10 + pk13) : Nat) : Int) : Int), .int .i64 (((pk86 : Nat) : Int) : Int), .int .i64 (((pk14 : Nat) : Int) : Int), .int .i64 ((((pk14 + 4000) + pk101 : Nat) : Int) : Int), .int .i64 (((pk15 : Nat) : Int) : Int), .int .i64 ((((pk16 : Nat) : Int)) - 800 : Int), .int .i64 (((pk17 : Nat) : Int) : Int)]) rfl (by kernel_rfl) (by kernel_rfl) (st24 bO5_t122.1 bO5_t122.2 bO5_t123.1 bO5_t123.2 bO5_t124.1 bO5_t124.2 bO5_t125.1 bO5_t125.2 bO5_t126.1 bO5_t126.2 bO5_t127.1 bO5_t127.2 bO5_t128.1 bO5_t128.2)) bO5_t122 bO5_t123 bO5_t124 bO5_t125 bO5_t126 bO5_t127 bO5_t128 ?_)
  intro X114 ho hv0 hv1 hv2 hv3 hv4 hv5 hv6 hk; replace hE := ho.ext hE (T hs3 (Nat.le_of_eq hzO5))
  have q9 := fun (j : Nat) (v : Value) (h : BoxAt _ O1 j v) => ho.box (Nat.ne_of_gt (Nat.lt_of_lt_of_le lt4 (Nat.le_of_eq hzO5))) h
  replace bO1_t115 := q9 _ _ bO1_t115; replace bO1_t116 := q9 _ _ bO1_t116; replace bO1_t117 := q9 _ _ bO1_t117; replace bO1_t118 := q9 _ _ bO1_t118; replace bO1_t119 := q9 _ _ bO1_t119; replace bO1_t120 := q9 _ _ bO1_t120; replace bO1_t121 := q9 _ _ bO1_t121; clear q9; replace bO18_ttt129 := ho.box (Nat.ne_of_lt (Nat.lt_of_lt_of_le lt8 hn83)) bO18_ttt129; replace bO18_ttt130 := ho.box (Nat.ne_of_lt (Nat.lt_of_lt_of_le lt8 hn83)) bO18_ttt130; replace bO18_ttt131 := ho.box (Nat.ne_of_lt (Nat.lt_of_lt_of_le lt8 hn83)) bO18_ttt131; replace bO18_ttt132 := ho.box (Nat.ne_of_lt (Nat.lt_of_lt_of_le lt8 hn83)) bO18_ttt132; replace bO18_ttt133 := ho.box (Nat.ne_of_lt (Nat.lt_of_lt_of_le lt8 hn83)) bO18_ttt133; replace bO18_ttt134 := ho.box (Nat.ne_of_lt (Nat.lt_of_lt_of_le lt8 hn83)) bO18_ttt134; replace bO18_ttt135 := ho.box (Nat.ne_of_lt (Nat.lt_of_lt_of_le lt8 hn83)) bO18_ttt135; have hs136 : X102.heap.size ≤ X114.heap.size := Nat.le_of_eq ho.size.symm; clear ho hk bO5_t122 bO5_t123 bO5_t124 bO5_t125 bO5_t126 bO5_t127 bO5_t128; have bO5_t122 := hv0; clear hv0; have bO5_t123 := hv1; clear hv1; have bO5_t124 := hv2; clear hv2; have bO5_t125 := hv3; clear hv3; have bO5_t126 := hv4; clear hv4; have bO5_t127 := hv5; clear hv5; have bO5_t128 := hv6; clear hv6; refine pl_nil ?_; refine qw_then ?_
  refine cw_ret ?_
  refine qw_ret [.agg #[.int .i64 (((2 * (10 + pk13) : Nat) : Int) : Int), .int .i64 (((pk86 : Nat) : Int) : Int), .int .i64 (((pk14 : Nat) : Int) : Int), .int .i64 ((((pk14 + 4000) + pk101 : Nat) : Int) : Int), .int .i64 (((pk15 : Nat) : Int) : Int), .int .i64 ((((pk16 : Nat) : Int)) - 800 : Int), .int .i64 (((pk17 : Nat) : Int) : Int)]] rfl ⟨⟨_, by kernel_rfl, res_ld (ld24 (bO5_t122.1) (bO5_t123.1) (bO5_t124.1) (bO5_t125.1) (bO5_t126.1) (bO5_t127.1) (bO5_t128.1))⟩, trivial⟩ ?_
  refine ⟨⟨((2 * (10 + pk13) : Nat) : Int), ((pk86 : Nat) : Int), ((pk14 : Nat) : Int), (((pk14 + 4000) + pk101 : Nat) : Int), ((pk15 : Nat) : Int), (((pk16 : Nat) : Int)) - 800, ((pk17 : Nat) : Int)⟩, rfl, Orb.ok_t.2 ⟨⟨?_, ?_, ?_⟩, ⟨?_, ?_⟩, ⟨?_, ?_⟩, ⟨?_, ?_⟩, ?_, ⟨?_, ?_⟩, ⟨?_, ?_⟩, ?_, ?_⟩, ?_, hE⟩ <;> simp only [] <;> first | omega | (rw [Int.tmod_eq_emod_of_nonneg (by omega)]; omega)

end Go.Proofs.Ytdjjkhefdalokaa

/- Contracts of package sun's small functions. -/
namespace Go.Proofs.Ytdjjkhefdalokaa
open Go.RowKit

theorem isMinute_c (t : Int) (w : World) : Calls Try.prog 65 #[.int .i64 t] w fun e w' => e = .returned (.bool (Sun.minB t)) ∧ w = w' := by
 go_enter Try.func65, Try.ntmps65
 go_wp2
 all_goals (go_ret; refine ⟨ret_bool ?_, rfl⟩; first | (rw [Sun.minB_f.2 (by omega)]; done) | (simp [Sun.minB]; omega))

theorem tdiv3 (n : Int) (h : n < 0) : n - 2 ≤ 3 * n.tdiv 3 ∧ 3 * n.tdiv 3 ≤ n + 2 ∧ n ≤ 3 * n.tdiv 3 := by
 obtain ⟨m, rfl⟩ : ∃ m : Int, n = -m := ⟨-n, by omega⟩
 rw [Int.neg_tdiv, Int.tdiv_eq_ediv_of_nonneg (by omega)]
 omega

theorem third_c (n : Int) (w : World) (h0 : -1000000000 ≤ n) (h1 : n ≤ 1000000000) : Calls Try.prog 94 #[.int .i64 n] w fun e w' => e = .returned (.int .i64 (n / 3)) ∧ w = w' := by
  by_cases h : n < 0
  · obtain ⟨h2, h3, h4⟩ := tdiv3 n h
    go_enter Try.func94, Try.ntmps94
    go_wp2
    all_goals (go_ret; refine ⟨?_, rfl⟩; exact ret_int (by omega))
  · go_enter Try.func94, Try.ntmps94
    go_wp2
    all_goals (go_ret; exact ⟨rfl, rfl⟩)

theorem away_c (a b : Int) (w : World) (h1 : -100000000 ≤ a) (h2 : a ≤ 1000000000) (h3 : -1000000000 ≤ b) (h4 : b ≤ 1000000000) :
  Calls Try.prog 69 #[.int .i64 a, .int .i64 b] w fun e w' => e = .returned (.int .i64 (Sun.away a b)) ∧ w = w' := by
 go_enter Try.func69, Try.ntmps69
 go_wp2
 all_goals (go_ret; refine ⟨ret_int ?_, rfl⟩; unfold Sun.away; omega)

theorem Noon_yes (t : Int) (w : World) (h : Sun.minB t = true) : Calls Try.prog 67 #[.int .i64 t] w fun e w' => e = .returned (.tuple #[.int .i64 (Sun.noon t), .int .i64 0]) ∧ w = w' := by
 obtain ⟨h0, h1⟩ := Sun.minB_t.1 h
 go_enter Try.func67, Try.ntmps67
 go_wp2_with (first | (go_at_call 65; refine (isMinute_c _ _).mono ?_; rintro e w' ⟨rfl, rfl⟩) | (go_at_call 94; refine (third_c _ _ (by omega) (by omega)).mono ?_; rintro e w' ⟨rfl, rfl⟩))
 go_ret2
 exact ⟨rfl, rfl⟩
/-! The parts of the year: three functions. -/
theorem part1_c (d : Int) (w : World) (h0 : 0 ≤ d) (h1 : d ≤ 360) : Calls Try.prog 105 #[.int .i64 d] w fun e w' => e = .returned (.int .i64 (100 * d)) ∧ w = w' := by
 go_enter Try.func105, Try.ntmps105
 go_wp2
 go_ret
 exact ⟨rfl, rfl⟩
theorem part2_c (d : Int) (w : World) (h0 : 0 ≤ d) (h1 : d ≤ 360) : Calls Try.prog 106 #[.int .i64 d] w fun e w' => e = .returned (.int .i64 (100 * (180 - d))) ∧ w = w' := by
 go_enter Try.func106, Try.ntmps106
 go_wp2
 go_ret
 exact ⟨rfl, rfl⟩
theorem part3_c (d : Int) (w : World) (h0 : 0 ≤ d) (h1 : d ≤ 360) : Calls Try.prog 107 #[.int .i64 d] w fun e w' => e = .returned (.int .i64 (100 * (d - 360))) ∧ w = w' := by
 go_enter Try.func107, Try.ntmps107
 go_wp2
 go_ret
 exact ⟨rfl, rfl⟩
theorem parts_c (w : World) : Calls Try.prog 95 #[] w fun e w' => e = .returned (.agg #[.int .i64 90, .func (.func 105) #[] #[], .int .i64 270, .func (.func 106) #[] #[], .int .i64 360, .func (.func 107) #[] #[]]) ∧ Ext w w' := by
 go_enter Try.func95, Try.ntmps95
 go_wp2
 go_returns
 exact ⟨rfl, by (repeat' (first | (with_reducible assumption) | (with_reducible exact Ext.refl _) | (with_reducible refine Ext.alloc ?_ _) | (with_reducible refine Ext.drew ?_) | (with_reducible refine Ext.drewN ?_ _) | (with_reducible refine Ext.setCell ?_ ?_ _) | (with_reducible refine Ext.trans ?_ (by assumption)) | go_size))⟩

end Go.Proofs.Ytdjjkhefdalokaa

/- Contracts of package sun: Season, Height, Lit, Dark. -/
namespace Go.Proofs.Ytdjjkhefdalokaa
open Go.RowKit

theorem part_0 (w : World) : (Instr.index 117 (.agg #[.int .i64 90, .func (.func 105) #[] #[], .int .i64 270, .func (.func 106) #[] #[], .int .i64 360, .func (.func 107) #[] #[]]) (.int .i64 0)).run Try.prog w = .ok (.agg #[.int .i64 90, .func (.func 105) #[] #[]]) w := by kernel_rfl
theorem part_1 (w : World) : (Instr.index 117 (.agg #[.int .i64 90, .func (.func 105) #[] #[], .int .i64 270, .func (.func 106) #[] #[], .int .i64 360, .func (.func 107) #[] #[]]) (.int .i64 1)).run Try.prog w = .ok (.agg #[.int .i64 270, .func (.func 106) #[] #[]]) w := by kernel_rfl
theorem part_2 (w : World) : (Instr.index 117 (.agg #[.int .i64 90, .func (.func 105) #[] #[], .int .i64 270, .func (.func 106) #[] #[], .int .i64 360, .func (.func 107) #[] #[]]) (.int .i64 2)).run Try.prog w = .ok (.agg #[.int .i64 360, .func (.func 107) #[] #[]]) w := by kernel_rfl

theorem Season_yes (t : Int) (w : World) (h : Sun.minB t = true) : Calls Try.prog 68 #[.int .i64 t] w fun e w' => e = .returned (.tuple #[.int .i64 (Sun.season t), .int .i64 0]) ∧ Ext w w' := by
  obtain ⟨h0, h1⟩ := Sun.minB_t.1 h
  have i0 := part_0
  have i1 := part_1
  have i2 := part_2
  by_cases c1 : t / 1440 % 360 ≤ 90
  · go_enter Try.func68, Try.ntmps68
    go_wp2_with (first | (go_at_call 65; refine (isMinute_c _ _).mono ?_; rintro e w' ⟨rfl, rfl⟩) | (go_at_call 95; refine (parts_c _).mono ?_; rintro e w1 ⟨rfl, hb⟩; have hc := hb.cellE; have hf := hb.frozenE; have hz := hb.size; have ha := alloc_keeps w1; (try simp only [World.size_alloc] at hc hf hz); (try simp only [World.size_setCell] at hc hf hz); (try simp only [World.size_drew] at hc hf hz)))
    refine wp_loop_rounds 4 ?_
    rw [rounds_succ]
    go_wp2_with (first | (go_at_call 105; refine (part1_c _ _ (by omega) (by omega)).mono ?_; rintro e w' ⟨rfl, rfl⟩) | (go_at_call 94; refine (third_c _ _ (by omega) (by omega)).mono ?_; rintro e w' ⟨rfl, rfl⟩))
    go_ret2
    exact ⟨by rw [Sun.season_a (by omega)]; rfl, by (repeat' (first | (with_reducible assumption) | (with_reducible exact Ext.refl _) | (with_reducible refine Ext.alloc ?_ _) | (with_reducible refine Ext.drew ?_) | (with_reducible refine Ext.drewN ?_ _) | (with_reducible refine Ext.setCell ?_ ?_ _) | (with_reducible refine Ext.trans ?_ (by assumption)) | go_size))⟩
  · by_cases c2 : t / 1440 % 360 ≤ 270
    · go_enter Try.func68, Try.ntmps68
      go_wp2_with (first | (go_at_call 65; refine (isMinute_c _ _).mono ?_; rintro e w' ⟨rfl, rfl⟩) | (go_at_call 95; refine (parts_c _).mono ?_; rintro e w1 ⟨rfl, hb⟩; have hc := hb.cellE; have hf := hb.frozenE; have hz := hb.size; have ha := alloc_keeps w1; (try simp only [World.size_alloc] at hc hf hz); (try simp only [World.size_setCell] at hc hf hz); (try simp only [World.size_drew] at hc hf hz)))
      refine wp_loop_rounds 4 ?_
      rw [rounds_succ]
      go_wp2_with fail
      rw [rounds_succ]
      go_wp2_with (first | (go_at_call 106; refine (part2_c _ _ (by omega) (by omega)).mono ?_; rintro e w' ⟨rfl, rfl⟩) | (go_at_call 94; refine (third_c _ _ (by omega) (by omega)).mono ?_; rintro e w' ⟨rfl, rfl⟩))
      go_ret2
      exact ⟨by rw [Sun.season_b (by omega) (by omega)]; rfl, by (repeat' (first | (with_reducible assumption) | (with_reducible exact Ext.refl _) | (with_reducible refine Ext.alloc ?_ _) | (with_reducible refine Ext.drew ?_) | (with_reducible refine Ext.drewN ?_ _) | (with_reducible refine Ext.setCell ?_ ?_ _) | (with_reducible refine Ext.trans ?_ (by assumption)) | go_size))⟩
    · go_enter Try.func68, Try.ntmps68
      go_wp2_with (first | (go_at_call 65; refine (isMinute_c _ _).mono ?_; rintro e w' ⟨rfl, rfl⟩) | (go_at_call 95; refine (parts_c _).mono ?_; rintro e w1 ⟨rfl, hb⟩; have hc := hb.cellE; have hf := hb.frozenE; have hz := hb.size; have ha := alloc_keeps w1; (try simp only [World.size_alloc] at hc hf hz); (try simp only [World.size_setCell] at hc hf hz); (try simp only [World.size_drew] at hc hf hz)))
      refine wp_loop_rounds 4 ?_
      rw [rounds_succ]
      go_wp2_with fail
      rw [rounds_succ]
      go_wp2_with fail
      rw [rounds_succ]
      go_wp2_with (first | (go_at_call 107; refine (part3_c _ _ (by omega) (by omega)).mono ?_; rintro e w' ⟨rfl, rfl⟩) | (go_at_call 94; refine (third_c _ _ (by omega) (by omega)).mono ?_; rintro e w' ⟨rfl, rfl⟩))
      go_ret2
      exact ⟨by rw [Sun.season_c (by omega)]; rfl, by (repeat' (first | (with_reducible assumption) | (with_reducible exact Ext.refl _) | (with_reducible refine Ext.alloc ?_ _) | (with_reducible refine Ext.drew ?_) | (with_reducible refine Ext.drewN ?_ _) | (with_reducible refine Ext.setCell ?_ ?_ _) | (with_reducible refine Ext.trans ?_ (by assumption)) | go_size))⟩
theorem Height_yes (x y t : Int) (w : World) (h : Sun.minB t = true) (hv : Globe.vcB x y = true) :
  Calls Try.prog 29 #[.agg #[.int .i64 x, .int .i64 y], .int .i64 t] w fun e w' => e = .returned (.tuple #[.int .i64 (Sun.height x y t), .int .i64 0]) ∧ Ext w w' := by
 obtain ⟨h0, h1⟩ := Sun.minB_t.1 h
 obtain ⟨h2, h3, h4, h5⟩ := Globe.vcB_t.1 hv
 have hn := Sun.noon_bd h0
 have hs := Sun.season_bd t
 have ha := @Sun.away_bd (1000 * x + 500) (Sun.noon t) 48000 (by omega) (by omega) (by omega) (by omega)
 have hy := @Sun.away_bd (1000 * y + 500) (Sun.season t) 24000 (by omega) (by omega) (by omega) (by omega)
 go_enter Try.func29, Try.ntmps29
 go_wp2_with (first | (go_at_call 65; refine (isMinute_c _ _).mono ?_; rintro e w' ⟨rfl, rfl⟩) | (go_at_call 66; refine (ValidCell_c _ _ _).mono ?_; rintro e w1 ⟨rfl, hb⟩; have hc := hb.cellE; have hf := hb.frozenE; have hz := hb.size; have ha := alloc_keeps w1; (try simp only [World.size_alloc] at hc hf hz); (try simp only [World.size_setCell] at hc hf hz); (try simp only [World.size_drew] at hc hf hz)) | (go_at_call 67; refine (Noon_yes _ _ h).mono ?_; rintro e w' ⟨rfl, rfl⟩) | (go_at_call 68; refine (Season_yes _ _ h).mono ?_; rintro e w1 ⟨rfl, hb⟩; have hc := hb.cellE; have hf := hb.frozenE; have hz := hb.size; have ha := alloc_keeps w1; (try simp only [World.size_alloc] at hc hf hz); (try simp only [World.size_setCell] at hc hf hz); (try simp only [World.size_drew] at hc hf hz)) | (go_at_call 69; refine (away_c _ _ _ (by omega) (by omega) (by omega) (by omega)).mono ?_; rintro e w' ⟨rfl, rfl⟩))
 all_goals (go_ret2; exact ⟨ret2_int (by unfold Sun.height Sun.ac Sun.ds; omega), by (repeat' (first | (with_reducible assumption) | (with_reducible exact Ext.refl _) | (with_reducible refine Ext.alloc ?_ _) | (with_reducible refine Ext.drew ?_) | (with_reducible refine Ext.drewN ?_ _) | (with_reducible refine Ext.setCell ?_ ?_ _) | (with_reducible refine Ext.trans ?_ (by assumption)) | go_size))⟩)
end Go.Proofs.Ytdjjkhefdalokaa
