/- Contracts of package globe: the iterator over the cells of a valid area. -/
import Derived.Test.YtglfoglkdbbmmaaDoorG3
namespace Go.Proofs.YtglfoglkdbbmmaaDoor
open Go.RowKit Go.Shelf

attribute [local go_sem] Oper.semAt_some

theorem Tab.keep {n₀ : Nat} {X : Nat → Prop} {w w' : World} (h : Tab w) (hn : 1 < n₀) (hx : ¬ X 1) (hb : KeepX n₀ X w w') : Tab w' :=
  ⟨Nat.lt_of_lt_of_le h.1 hb.size, fun j hj => (hb.cell hn hx).trans (h.2 j hj)⟩

theorem cells_c (a : Option Addr) (k c : Nat) (w : World) : Calls Tryd.prog 58 #[.agg #[.slice a k c]] w fun e w' => e = .returned (.func (.func 74) #[] #[.pointer (some ⟨w.heap.size, 0, none⟩)]) ∧ w.alloc (.cells #[.slice a k c] 25) = w' := by
  go_enter Tryd.func58, Tryd.ntmps58
  go_wp2
  go_ret
  exact ⟨rfl, rfl⟩

/-- What a cell is handed on as. -/
def encCell (p : Nat × Nat) : Array Value := #[.agg #[.int .i64 (p.1 : Int), .int .i64 (p.2 : Int)]]

theorem and_pred_i64 (R : Nat) (h0 : 0 < R) (h : R < 281474976710656) : bits .and .i64 (R : Int) ((R : Int) - 1) = ((R &&& (R - 1) : Nat) : Int) := by
  rw [show ((R : Int) - 1) = ((R - 1 : Nat) : Int) by omega]
  exact (bits_nat .i64 62 (by decide) (fun n h1 h2 => by rw [IntKind.wrap_i64]; omega) R (R - 1) (by omega) (by omega)).1

set_option maxHeartbeats 2000000 in
theorem cells_stops (n : Nat) (Bn b off c n₀ : Nat) (X : Nat → Prop) (l : List Int) (w : World) (hl : Globe.validL l = true) (hB : Bn < n₀) (hBX : ¬ X Bn) (hb : b < n₀) (hbX : ¬ X b) (hg : 1 < n₀) (hgX : ¬ X 1) (hn : n₀ ≤ w.heap.size)
    (hBn : w.cell? ⟨Bn, 0, none⟩ = some (.slice (some ⟨b, off, none⟩) 24 c)) (hr : ∀ i, i < 24 → w.cell? ⟨b, off + i, none⟩ = some (.int .i64 (Globe.nth l i))) (hT : Tab w) :
    SeqStopsK Fence.wide n Tryd.prog 74 #[.pointer (some ⟨Bn, 0, none⟩)] encCell (KeepX n₀ X) (fun xs => xs = Globe.cellsTo l 24) (fun pre => pre <+: Globe.cellsTo l 24) (Globe.cellsTo l 24).length w := by
  intro ll J Jx W hW hJ hJx hY hJ0
  obtain ⟨hlen, hrow⟩ := Globe.validL_t.1 hl
  have hW' : KeepX n₀ X w W := KeepX.of_below (hW.mono hn)
  refine callsIn_of_wp Tryd.func74 rfl trivial ?_ rfl
  simp only [Tryd.ntmps74, List.size_toArray, List.length_cons, List.length_nil, Nat.reduceAdd, Nat.reduceSub, Array.replicate_succ, Array.replicate_zero, List.push_toArray, List.append_toArray, List.nil_append, List.cons_append]
  have hBW : W.cell? ⟨Bn, 0, none⟩ = some (.slice (some ⟨b, off, none⟩) 24 c) := (hW'.cell hB hBX).trans hBn
  have Hr : Hid (∀ i, i < 24 → W.cell? ⟨b, off + i, none⟩ = some (.int .i64 (Globe.nth l i))) := fun i hi => (hW'.cell hb hbX).trans (hr i hi)
  have HT := Lib.hid (hT.keep hg hgX hW')
  have HY := Lib.hid hY
  have Hrow := Lib.hid hrow
  clear hBn hr hT hY hrow hl
  gi_wp2
  gi_loopw [9] (fun p wr => ∃ y : Nat, y ≤ 24 ∧ p = .int .i64 y ∧ J (Globe.cellsTo l y) wr ∧ KeepX n₀ X W wr) (fun p _ => 24 - (intOf p).toNat)
  case atStart => exact ⟨0, by omega, rfl, hJ0, KeepX.refl _ _ _⟩
  case round =>
    obtain ⟨y, hy, rfl, hJy, hbw⟩ := hrel
    clear hJ0 hBW
    by_cases hlt : y < 24
    · have hc : wr.cell? ⟨b, off + y, none⟩ = some (.int .i64 (Globe.nth l y)) := (hbw.cell hb hbX).trans (Hr.out y hlt)
      obtain ⟨hR0, hR1⟩ := Hrow.out _ (Globe.nth_mem (l := l) (i := y) (by omega))
      have hy0 : (0 : Int) ≤ (y : Int) := by omega
      have hdy : decide ((y : Int) < 24) = true := by simp; omega
      gi_wp2
      obtain ⟨R0, hR0e⟩ : ∃ R0 : Nat, Globe.nth l y = (R0 : Int) := ⟨(Globe.nth l y).toNat, by omega⟩
      have HR0 := Lib.hid hR0e
      rw [hR0e]
      clear hR0e hc
      obtain ⟨wo, rfl⟩ : ∃ wo : World, wo = wr := ⟨_, rfl⟩
      gi_loopw [4] (fun p wr => ∃ (R : Nat) (done : List (Nat × Nat)), R < 281474976710656 ∧ p = .int .i64 R ∧ Hid (done ++ (Globe.bitsN R).map (fun x => (x, y)) = Globe.rowCells l y) ∧ J (Globe.cellsTo l y ++ done) wr ∧ KeepX n₀ X W wr) (fun p _ => (intOf p).toNat)
      case atStart => exact ⟨R0, [], by have := HR0.out; omega, rfl, by show _ = _; rw [Globe.rowCells, HR0.out]; rfl, by simpa using hJy, hbw⟩
      case round =>
        obtain ⟨R, done, hR, rfl, Hd, hJd, hbd⟩ := hrel
        by_cases hz : R = 0
        · subst hz
          gi_wp2
          go_roundw
          case rel => exact ⟨y + 1, by omega, by go_num, by rw [Globe.cellsTo_succ, ← Hd.out]; simpa [Globe.bitsN_zero] using hJd, hbd⟩
          case measure => simp [intOf]; omega
        · have hz0 : ((R : Int) != 0) = true := by simp; omega
          have hTr := HT.out.keep hg hgX hbd
          have hst := Globe.bitsN_step R hz hR
          have hd := Hd.out
          rw [hst, List.map_cons] at hd
          obtain ⟨hm1, hm2⟩ := Globe.cells_mid (by omega) hd
          obtain ⟨fn, tmps, assign, body, hyy, hRd⟩ := HY.out (Globe.cellsTo l y ++ done) (Lib.ctz 64 R, y) wr hJd hm1
          dsimp only [encCell] at hyy
          have Hd2 := Lib.hid hd; clear hd hm1 hst
          have Hm2 := Lib.hid hm2; clear hm2
          have hand := and_pred_i64 R (by omega) hR
          have hR2 := Globe.and_pred_lt R hR
          have hR3 := Globe.and_pred_less R hz
          gi_wp2_with (refine ⟨trivial, wide_depth, ?_⟩; gi_at_call 75; refine (callsIn_wide.2 (TrailingZeros_c R _ hz hR hTr)).mono ?_; rintro e w' ⟨rfl, rfl⟩)
          refine ⟨wide_depth, hRd.mono ?_⟩
          rintro e W3 (⟨rfl, hJ3, hk3⟩ | ⟨rfl, hJx3⟩)
          · gi_wp2
            go_roundw
            case rel => exact ⟨R &&& (R - 1), done ++ [(Lib.ctz 64 R, y)], hR2, rfl, by show _ = _; rw [List.append_assoc]; exact Hd2.out, by rw [← List.append_assoc]; exact hJ3, hbd.trans hk3⟩
            case measure => simp [intOf]; omega
          · gi_wp2
            refine bodyPost_ret (results_none rfl _ _ _) rfl ?_
            exact ⟨⟨_, rfl⟩, .inr ⟨_, Hm2.out, hJx3⟩⟩
    · obtain rfl : y = 24 := by omega
      gi_wp2
      go_end0
      exact ⟨⟨_, rfl⟩, by first | exact .inl hJy | exact .inl ⟨_, rfl, hJy⟩⟩

end Go.Proofs.YtglfoglkdbbmmaaDoor
