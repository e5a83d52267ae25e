/- Contracts of package sun: Range. -/
import Derived.Test.YtknlnmalaidaiaaDoorS2
import Derived.Test.YtknlnmalaidaiaaDoorG5
import Derived.Test.YtknlnmalaidaiaaDoorM7
import Derived.Test.YtknlnmalaidaiaaDoorW3
namespace Go.Proofs.YtknlnmalaidaiaaDoor
open Go.RowKit

/-- What the bounds' own box and the spell's box hold in the midst of the loops. -/
def Bd (w : World) (S B : Nat) (f t : Int) (hs : List Int) (wr : World) : Prop :=
  wr.cell? ⟨B, 0, none⟩ = some (.int .i64 (Sun.minL hs)) ∧ wr.cell? ⟨B, 1, none⟩ = some (.int .i64 (Sun.maxL hs)) ∧ wr.frozen? ⟨B, 0, none⟩ = false ∧ wr.frozen? ⟨B, 1, none⟩ = false ∧
  wr.cell? ⟨S, 0, none⟩ = some (.int .i64 f) ∧ wr.cell? ⟨S, 1, none⟩ = some (.int .i64 t) ∧ Ext w wr

theorem Bd.step {w w1 : World} {S B : Nat} {f t v0 v1 : Int} {hs hs' : List Int} (h : Bd w S B f t hs w1) (hSB : S < B) (hw : w.heap.size ≤ B) (e0 : v0 = Sun.minL hs') (e1 : v1 = Sun.maxL hs') :
    Bd w S B f t hs' ((w1.setCell ⟨B, 0, none⟩ (.int .i64 v0)).setCell ⟨B, 1, none⟩ (.int .i64 v1)) := by
  obtain ⟨b0, b1, g0, g1, s0, s1, hE⟩ := h
  subst e0 e1
  refine ⟨?_, ?_, ?_, ?_, ?_, ?_, ?_⟩
  · simp [go_sem, b0]
  · simp [go_sem, b1]
  · simp [go_sem, g0]
  · simp [go_sem, g1]
  · simp [go_sem, s0]
  · simp [go_sem, s1]
  · exact (hE.setCell (p := ⟨B, 0, none⟩) hw _).setCell (p := ⟨B, 1, none⟩) hw _
theorem Bd.ext {w w1 w2 : World} {S B : Nat} {f t : Int} {hs : List Int} (h : Bd w S B f t hs w1) (hE : Ext w1 w2) : Bd w S B f t hs w2 := by
  obtain ⟨b0, b1, g0, g1, s0, s1, hEw⟩ := h
  exact ⟨hE.cell b0, hE.cell b1, hE.free b0 g0, hE.free b1 g1, hE.cell s0, hE.cell s1, hEw.trans hE⟩

set_option maxHeartbeats 2000000 in
theorem Range_yes (b off c : Nat) (l : List Int) (f t : Int) (w : World) (h : ∀ i, i < l.length → w.cell? ⟨b, off + i, none⟩ = some (.int .i64 (Globe.nth l i))) (hv : Globe.validL l = true) (hT : Tab w)
    (hs : Sun.spB f t = true) (h60 : t - f ≤ 60) (hne : ((Globe.cellsTo l 24).length : Int) ≠ 0) :
    Calls Tryd.prog 28 #[.agg #[.slice (some ⟨b, off, none⟩) l.length c], .agg #[.int .i64 f, .int .i64 t]] w fun e w' => e = .returned (.tuple #[.int .i64 (Sun.minL (Sun.hts f t (Globe.cellsTo l 24))), .int .i64 (Sun.maxL (Sun.hts f t (Globe.cellsTo l 24))), .int .i64 0]) ∧ Ext w w' := by
  obtain ⟨hl24, hrow⟩ := Globe.validL_t.1 hv
  have hl : l.length ≤ 140737488355328 := by omega
  have H : Hid (IntsAt w (some ⟨b, off, none⟩) l) := .inr ⟨b, off, rfl, h⟩
  have H2 := Lib.hid h; clear h
  have Hl := Lib.hid hl24; clear hl24
  have Hrow := Lib.hid hrow; clear hrow
  have hne' : (((Globe.cellsTo l 24).length : Int) == 0) = false := by simpa using hne
  have HT := Lib.hid hT; clear hT
  have Hv := Lib.hid hv
  obtain ⟨hs1, hs2, hs3⟩ := Sun.spB_t.1 hs
  go_enter Tryd.func28, Tryd.ntmps28
  go_wp2_with (first | (go_at_call 43; refine (Valid_c _ _ _ _ (H.out.ext (by (repeat' (first | (with_reducible assumption) | (with_reducible exact Ext.refl _) | (with_reducible refine Ext.alloc ?_ _) | (with_reducible refine Ext.drew ?_) | (with_reducible refine Ext.drewN ?_ _) | (with_reducible refine Ext.setCell ?_ ?_ _) | (with_reducible refine Ext.trans ?_ (by assumption)) | go_size)))) hl).mono ?_; rintro e w1 ⟨rfl, hb⟩; have hc := hb.cellE; have hf := hb.frozenE; have hz := hb.size; have ha := alloc_keeps w1; (try simp only [World.size_alloc] at hc hf hz); (try simp only [World.size_setCell] at hc hf hz); (try simp only [World.size_drew] at hc hf hz)) | (go_at_call 44; refine (Count_yes _ _ _ _ _ (fun i hi => (show Ext w _ by (repeat' (first | (with_reducible assumption) | (with_reducible exact Ext.refl _) | (with_reducible refine Ext.alloc ?_ _) | (with_reducible refine Ext.drew ?_) | (with_reducible refine Ext.drewN ?_ _) | (with_reducible refine Ext.setCell ?_ ?_ _) | (with_reducible refine Ext.trans ?_ (by assumption)) | go_size))).cell (H2.out i hi)) Hv.out (HT.out.ext (by (repeat' (first | (with_reducible assumption) | (with_reducible exact Ext.refl _) | (with_reducible refine Ext.alloc ?_ _) | (with_reducible refine Ext.drew ?_) | (with_reducible refine Ext.drewN ?_ _) | (with_reducible refine Ext.setCell ?_ ?_ _) | (with_reducible refine Ext.trans ?_ (by assumption)) | go_size))))).mono ?_; rintro e w1 ⟨rfl, hb⟩; have hc := hb.cellE; have hf := hb.frozenE; have hz := hb.size; have ha := alloc_keeps w1; (try simp only [World.size_alloc] at hc hf hz); (try simp only [World.size_setCell] at hc hf hz); (try simp only [World.size_drew] at hc hf hz)))
  obtain ⟨B, hB⟩ : ∃ B, B = w1.heap.size := ⟨_, rfl⟩
  have hSB : w.heap.size + 1 < B := by omega
  have hbd : Bd w (w.heap.size + 1) B f t (Sun.hts f t (Globe.cellsTo l 0)) (w1.alloc (.cells #[.int .i64 90, .int .i64 (-90)] 32)) := by
    subst hB
    have e1 : Ext w1 (w1.alloc (.cells #[.int .i64 90, .int .i64 (-90)] 32)) := by (repeat' (first | (with_reducible assumption) | (with_reducible exact Ext.refl _) | (with_reducible refine Ext.alloc ?_ _) | (with_reducible refine Ext.drew ?_) | (with_reducible refine Ext.drewN ?_ _) | (with_reducible refine Ext.setCell ?_ ?_ _) | (with_reducible refine Ext.trans ?_ (by assumption)) | go_size))
    refine ⟨by simp [go_sem, Globe.cellsTo_zero, Sun.hts, Sun.minL], by simp [go_sem, Globe.cellsTo_zero, Sun.hts, Sun.maxL], by simp [go_sem], by simp [go_sem], ?_, ?_, by (repeat' (first | (with_reducible assumption) | (with_reducible exact Ext.refl _) | (with_reducible refine Ext.alloc ?_ _) | (with_reducible refine Ext.drew ?_) | (with_reducible refine Ext.drewN ?_ _) | (with_reducible refine Ext.setCell ?_ ?_ _) | (with_reducible refine Ext.trans ?_ (by assumption)) | go_size))⟩
    · exact e1.cell (hb.cell (Ext.cell (by assumption) (by simp [go_sem])))
    · exact e1.cell (hb.cell (Ext.cell (by assumption) (by simp [go_sem])))
  rw [← hB]
  generalize w1.alloc (.cells #[.int .i64 90, .int .i64 (-90)] 32) = W0 at *
  clear hc hf hz ha hb
  clear hc hf hz ha hb hB
  go_loopw [54] (fun p wr => ∃ y : Nat, y ≤ 24 ∧ p = .int .i64 y ∧ Bd w (w.heap.size + 1) B f t (Sun.hts f t (Globe.cellsTo l y)) wr) (fun p _ => 24 - (intOf p).toNat)
  case atStart => exact ⟨0, by omega, rfl, hbd⟩
  case round =>
    obtain ⟨y, hy, rfl, hbd⟩ := hrel
    have hl24 : (l.length : Int) = 24 := by have := Hl.out; omega
    by_cases hlt : y < 24
    · have hdy : decide ((y : Int) < 24) = true := by simp; omega
      have hE := hbd.2.2.2.2.2.2
      have hcy : wr.cell? ⟨b, off + y, none⟩ = some (.int .i64 (Globe.nth l y)) := hE.cell (H2.out y (by rw [Hl.out]; exact hlt))
      obtain ⟨hR0, hR1⟩ := Hrow.out _ (Globe.nth_mem (l := l) (i := y) (by rw [Hl.out]; exact hlt))
      go_wp2_with fail
      obtain ⟨R0, hR0e⟩ : ∃ R0 : Nat, Globe.nth l y = (R0 : Int) := ⟨(Globe.nth l y).toNat, by omega⟩
      have HR0 := Lib.hid hR0e
      rw [hR0e]
      clear hR0e hcy
      obtain ⟨wo, rfl⟩ : ∃ wo : World, wo = wr := ⟨_, rfl⟩
      go_loopw [59] (fun p wr => ∃ x : Nat, x ≤ 48 ∧ p = .int .i64 x ∧ Bd w (w.heap.size + 1) B f t (Sun.hts f t (Globe.cellsTo l y ++ Sun.rowTo l y x)) wr) (fun p _ => 48 - (intOf p).toNat)
      case atStart => exact ⟨0, by omega, rfl, by simpa [Sun.rowTo] using hbd⟩
      case round =>
        obtain ⟨x, hx, rfl, hbx⟩ := hrel
        by_cases hlx : x < 48
        · have hdx : decide ((x : Int) < 48) = true := by simp; omega
          have hx0 : (0 : Int) ≤ (x : Int) := by omega
          have hR48 : R0 < 281474976710656 := by have := HR0.out; omega
          have hb1 := bit_and1 R0 x (by omega)
          obtain ⟨b0, b1, g0, g1, s0, s1, hEx⟩ := hbx
          have hrt := Sun.rowTo_succ l y x
          rw [HR0.out, Int.toNat_natCast] at hrt
          cases hbit : R0.testBit x
          · have hand : bits .and .i64 ((R0 : Int) / 2 ^ x) 1 = 0 := by rw [hb1, hbit]; rfl
            have Hrt : Hid (Sun.rowTo l y (x + 1) = Sun.rowTo l y x) := by show _ = _; rw [hrt, hbit]; simp
            clear hb1 hrt
            go_wp2_with fail
            go_roundw
            case rel => exact ⟨x + 1, by omega, by go_num, by rw [Hrt.out]; exact ⟨b0, b1, g0, g1, s0, s1, hEx⟩⟩
            case measure => simp [intOf]; omega
          · have hand : bits .and .i64 ((R0 : Int) / 2 ^ x) 1 = 1 := by rw [hb1, hbit]; rfl
            have Hrt : Hid (Sun.rowTo l y (x + 1) = Sun.rowTo l y x ++ [(x, y)]) := by show _ = _; rw [hrt, hbit]; simp
            clear hb1 hrt
            go_wp2_with fail
            obtain ⟨wx, rfl⟩ : ∃ wx : World, wx = wr := ⟨_, rfl⟩
            have Hb0 : Bd w (w.heap.size + 1) B f t (Sun.hts f t (Globe.cellsTo l y ++ Sun.rowTo l y x) ++ Sun.htsT f (x, y) 0) wx := by
              rw [show Sun.htsT f (x, y) 0 = [] from rfl, List.append_nil]; exact ⟨b0, b1, g0, g1, s0, s1, hEx⟩
            clear b0 b1 g0 g1 s0 s1 hEx hand
            obtain ⟨T, hT⟩ : ∃ T : Nat, t - f = T := ⟨(t - f).toNat, by omega⟩
            have HT' : Hid ((t - f).toNat = T) := by show _ = _; omega
            have hT1 : t ≤ f + T := by omega
            have hT2 : f + T ≤ t := by omega
            have hvc : Globe.vcB x y = true := Globe.vcB_t.2 (by omega)
            clear hT
            go_loopw [12] (fun p wr => ∃ k : Nat, k ≤ T ∧ p = .int .i64 (f + k) ∧ Bd w (w.heap.size + 1) B f t (Sun.hts f t (Globe.cellsTo l y ++ Sun.rowTo l y x) ++ Sun.htsT f (x, y) k) wr) (fun p _ => (f + T - intOf p).toNat)
            case atStart => exact ⟨0, by omega, by simp, Hb0⟩
            case round =>
              obtain ⟨k, hk, rfl, hbk⟩ := hrel
              have Hbk := Lib.hid hbk
              obtain ⟨b0, b1, g0, g1, s0, s1, hEk⟩ := hbk
              have hBl := World.block_lt_of_cell? wr _ b0
              have hSl := World.block_lt_of_cell? wr _ s0
              by_cases hkT : k < T
              · have hkt : f + (k : Int) < t := by omega
                have hm : Sun.minB (f + k) = true := Sun.minB_t.2 (by omega)
                obtain ⟨hh1, hh2⟩ := @Sun.height_bd x y (f + k) (by omega) (by omega) (by omega) (by omega) (by omega)
                go_wp2_with (go_at_call 18; refine (Height_yes _ _ _ _ hm hvc).mono ?_; rintro e w1 ⟨rfl, hb⟩; have hc := hb.cellE; have hf := hb.frozenE; have hz := hb.size; have ha := alloc_keeps w1; (try simp only [World.size_alloc] at hc hf hz); (try simp only [World.size_setCell] at hc hf hz); (try simp only [World.size_drew] at hc hf hz))
                all_goals
                  refine ⟨⟨_, _, _, .int .i64 (f + k + 1), ⟨k + 1, by omega, by go_num, ?_⟩, rfl, rfl, rfl, rfl⟩, by simp [intOf]; omega⟩
                  refine (Hbk.out.ext (show Ext _ _ by (repeat' (first | (with_reducible assumption) | (with_reducible exact Ext.refl _) | (with_reducible refine Ext.alloc ?_ _) | (with_reducible refine Ext.drew ?_) | (with_reducible refine Ext.drewN ?_ _) | (with_reducible refine Ext.setCell ?_ ?_ _) | (with_reducible refine Ext.trans ?_ (by assumption)) | go_size)))).step hSB (by omega) ?_ ?_
                  · rw [Sun.htsT_succ, ← List.append_assoc, Sun.minL_snoc]; dsimp only; omega
                  · rw [Sun.htsT_succ, ← List.append_assoc, Sun.maxL_snoc]; dsimp only; omega
              · obtain rfl : k = T := by omega
                go_wp2_with fail
                go_roundw
                case rel => exact ⟨x + 1, by omega, by go_num, by
                  rw [Hrt.out, ← List.append_assoc, Sun.hts_app, Sun.hts_one, HT'.out]; exact Hbk.out⟩
                case measure => simp [intOf]; omega
        · obtain rfl : x = 48 := by omega
          obtain ⟨b0, b1, g0, g1, s0, s1, hEx⟩ := hbx
          go_wp2_with fail
          go_roundw
          case rel => exact ⟨y + 1, by omega, by go_num, by rw [Globe.cellsTo_succ, ← Sun.rowTo_all]; exact ⟨b0, b1, g0, g1, s0, s1, hEx⟩⟩
          case measure => simp [intOf]; omega
    · obtain rfl : y = 24 := by omega
      obtain ⟨b0, b1, g0, g1, s0, s1, hEx⟩ := hbd
      go_wp2_with fail
      go_quiet (fail)
      go_wp2
      go_ret3
      exact ⟨rfl, by (repeat' (first | (with_reducible assumption) | (with_reducible exact Ext.refl _) | (with_reducible refine Ext.alloc ?_ _) | (with_reducible refine Ext.drew ?_) | (with_reducible refine Ext.drewN ?_ _) | (with_reducible refine Ext.setCell ?_ ?_ _) | (with_reducible refine Ext.trans ?_ (by assumption)) | go_size))⟩

end Go.Proofs.YtknlnmalaidaiaaDoor
