/- Contracts of package globe: Cells. -/
import Derived.Test.YtnfknekbbdfdfaaDoorG5
import Derived.Test.YtnfknekbbdfdfaaDoorW5
import Derived.OwnWalkIn
import Derived.Test.YtnfknekbbdfdfaaDoorG7
namespace Go.Proofs.YtnfknekbbdfdfaaDoor
open Go.RowKit Go.Shelf

attribute [local go_sem] Oper.semAt_some

/-- The cells as they lie in memory, one behind the other. -/
def cellVals (l : List (Nat × Nat)) : List Value := l.flatMap fun p => [.int .i64 (p.1 : Int), .int .i64 (p.2 : Int)]
theorem cellVals_snoc (l : List (Nat × Nat)) (p : Nat × Nat) : cellVals (l ++ [p]) = cellVals l ++ [.int .i64 (p.1 : Int), .int .i64 (p.2 : Int)] := by simp [cellVals]
theorem cellVals_len (l : List (Nat × Nat)) : (cellVals l).length = l.length * 2 := by
  induction l with
  | nil => rfl
  | cons p l ih => simp only [cellVals, List.flatMap_cons, List.length_append, List.length_cons, List.length_nil] at ih ⊢; omega

theorem below_b {n₀ : Nat} : ∀ {A B C : World}, KeepX n₀ (fun _ => False) A B → KeepX n₀ (fun _ => False) B C → KeepX n₀ (fun _ => False) A C := KeepX.trans
theorem cell_two_new (w : World) (x y : Value) (t : TypeId) : ∀ j u, [x, y][j]? = some u → (w.alloc (.cells #[x, y] t)).cell? ((⟨w.heap.size, 0, none⟩ : Addr).add j) = some u := by
  intro j u hj
  rw [Addr.add_mid, Nat.zero_add]
  match j, hj with
  | 0, hj => simp at hj; subst hj; simp [go_sem]
  | 1, hj => simp at hj; subst hj; simp [go_sem]
  | _ + 2, hj => simp at hj

set_option maxHeartbeats 2000000 in
theorem AppendSeq_cells (Bn b off c : Nat) (l : List Int) (w : World) (hBn : w.cell? ⟨Bn, 0, none⟩ = some (.slice (some ⟨b, off, none⟩) 24 c)) (h : VA w b off l) (hT : Tab w) :
    Calls Tryd.prog 68 #[.slice none 0 0, .func (.func 66) #[] #[.pointer (some ⟨Bn, 0, none⟩)]] w fun e w' => ∃ v, e = .returned v ∧ w'.ownsRow w.heap.size 27 2 v (Globe.cellsTo l 24).length (cellVals (Globe.cellsTo l 24)) ∧ Ext w w' := by
  have hBl := World.block_lt_of_cell? w _ hBn
  have hbl := h.lt
  have hgs := hT.1
  have hcl := Globe.cellsTo_len l 24
  refine (callsIn_wide (n := 3)).1 ?_
  refine callsIn_of_wp_marks Tryd.func68 rfl trivial ?_ rfl
  simp only [Tryd.ntmps68, List.size_toArray, List.length_cons, List.length_nil, Nat.reduceAdd, Nat.reduceSub, Array.replicate_succ, Array.replicate_zero, List.push_toArray, List.append_toArray, List.nil_append, List.cons_append]
  refine wpIn_wide.2 ?_
  go_wp2_with fail
  obtain ⟨W0, hW0⟩ : ∃ W0, W0 = w.alloc (.cells #[.slice none 0 0] 36) := ⟨_, rfl⟩
  have hE0 : Ext w W0 := by rw [hW0]; (repeat' (first | (with_reducible assumption) | (with_reducible exact Ext.refl _) | (with_reducible refine Ext.alloc ?_ _) | (with_reducible refine Ext.drew ?_) | (with_reducible refine Ext.drewN ?_ _) | (with_reducible refine Ext.setCell ?_ ?_ _) | (with_reducible refine Ext.trans ?_ (by assumption)) | go_size))
  have hs0 : W0.heap.size = w.heap.size + 1 := by rw [hW0]; simp
  have hbx : Boxed W0 w.heap.size 36 (.slice none 0 0) := by rw [hW0]; exact Boxed.new _ _ _
  rw [← hW0]
  clear hW0
  obtain ⟨i0, hi, hz0, hz1, hz2⟩ := info_parts (P := Tryd.prog) (e := 27) (z := .agg #[.int .i64 0, .int .i64 0]) (size := 2) (bytes := 16) (by kernel_rfl)
  refine wpIn_wide (n := 3).1 ?_
  refine wpIn_rangeFunc_ownH (F := Fence.wide) rfl (by omega) (gf := 66) (lb := #[.pointer (some ⟨Bn, 0, none⟩)]) rfl trivial (enters_of Tryd.func66 (by kernel_rfl) rfl)
    (cells_stops _ Bn b off c w.heap.size (fun _ => False) l W0 h.2 hBl id hbl id hgs id (by omega) (hE0.cell hBn) (fun i hi => hE0.cell (h.1 i hi)) (hT.ext hE0)) KeepX.trans (KeepX.putObj (by omega)) (Below.refl _ _) (fun _ => rfl)
    (fun pre W => (∃ v, Boxed W w.heap.size 36 v ∧ W.ownsRow w.heap.size 27 2 v pre.length (cellVals pre) ∧ True) ∧ Below w.heap.size w W)
    (fun _ _ _ => False)
    (OwnFrom.and (Own.from (holdsRow_own w.heap.size w.heap.size _ _ 2 List.length cellVals (fun _ _ => True)) _) (ownFrom_below (Nat.le_refl _) (by omega)))
    (fun _ _ _ _ _ hs _ _ => hs) ⟨⟨_, hbx, World.ownsRow_nil _ _ _ _, trivial⟩, hE0⟩
    (fun p a' W => ∃ bx : Nat, a' = { tmps := #[.slice none 0 0, .func (.func 66) #[] #[.pointer (some ⟨Bn, 0, none⟩)], .pointer (some ⟨w.heap.size, 0, none⟩), undef, .slice none 0 0, .pointer (some ⟨bx, 0, none⟩), .func (.func 66) #[] #[.pointer (some ⟨Bn, 0, none⟩)], .agg #[.int .i64 (p.1 : Int), .int .i64 (p.2 : Int)], undef, undef, undef, undef, undef], defers := [] } ∧ W.cell? ⟨bx, 0, none⟩ = some (.int .i64 (p.1 : Int)) ∧ W.cell? ⟨bx, 1, none⟩ = some (.int .i64 (p.2 : Int)))
    ?hAx ?assign ?body ?done ?stop
  case hAx =>
    rintro p a' _ A B row ⟨bx, rfl, h1, h2⟩ hg hr
    exact ⟨bx, rfl, cell_kept h1 hg (fun r e => (hr r e).2), cell_kept h2 hg (fun r e => (hr r e).2)⟩
  case assign =>
    rintro ll pre p W K ⟨⟨v, hv, hrow, -⟩, hb⟩ hK
    dsimp only [encCell]
    gi_wp2
    refine hK _ _ ((KeepsOthers.alloc W _).from _) (KeepX.of_below (((Below.refl _ _).alloc hb.size _))) ⟨⟨v, hv.alloc _, hrow.alloc _, trivial⟩, hb.alloc hb.size _⟩ ⟨W.heap.size, rfl, by simp [go_sem], by simp [go_sem]⟩
  case body =>
    rintro ll pre p a' W hll hrec ⟨⟨v, hv, hrow, -⟩, hb⟩ ⟨bx, rfl, h1, h2⟩ hlen
    have hvc := hv.cell
    have hvf := hv.frozen
    have hlen' : pre.length + 1 ≤ 1152 := by omega
    gi_wp2_with (gi_at_builtin; refine wpListIn_append_own _ rfl _ _ 36 rfl w.heap.size 27 i0 (.agg #[.int .i64 0, .int .i64 0]) 2 16 Tryd.underlying36 hi hz0 hz1 hz2 rfl (by decide) _ _ _ rfl (hrow.alloc _) ⟨W.heap.size, 0, none⟩ 1 1 [.int .i64 (p.1 : Int), .int .i64 (p.2 : Int)] rfl rfl (cell_two_new _ _ _ _) (by simp [Value.oneCell']) (by unfold maxLen; omega) (by omega) (by have := hb.size; simp; omega) ?_; intro v' w3 hown' hg3 hnil3; obtain ⟨hv3, hv4, hrow4, hko, hbw⟩ := Boxed.appended hv (by decide) hrow hb.size (Nat.le_refl _) hown' hg3; obtain ⟨g', cap', rfl⟩ := ownsRow_succ hown'; have hvc3 := hv3.cell; have hvf3 := hv3.frozen; go_frame)
    refine ⟨hko.from _, KeepX.of_below hbw, ⟨_, hv4, ?_, trivial⟩, hb.trans (hbw.mono (Nat.le_refl _))⟩
    rw [cellVals_snoc, List.length_append]
    exact hrow4
  case done =>
    rintro D xs W hD rfl ⟨⟨v, hv, hrow, -⟩, hb⟩ hK
    have hvc := hv.cell
    go_wp2
    refine ⟨by simp, .inl ⟨_, _, rfl, run_takeDeferred hK, ?_⟩⟩
    exact ⟨_, results_tmp rfl _ _ _, v, rfl, ownsRow_putObj hrow _ hK rfl, Ext.shut hb (by omega) hK⟩
  case stop =>
    rintro D c pre W _ _ h _
    exact h.elim

theorem Collect_cells (Bn b off c : Nat) (l : List Int) (w : World) (hBn : w.cell? ⟨Bn, 0, none⟩ = some (.slice (some ⟨b, off, none⟩) 24 c)) (h : VA w b off l) (hT : Tab w) :
    Calls Tryd.prog 55 #[.func (.func 66) #[] #[.pointer (some ⟨Bn, 0, none⟩)]] w fun e w' => ∃ v, e = .returned v ∧ w'.ownsRow w.heap.size 27 2 v (Globe.cellsTo l 24).length (cellVals (Globe.cellsTo l 24)) ∧ Ext w w' := by
  have H := Lib.hid h; clear h
  have HT := Lib.hid hT; clear hT
  go_enter Tryd.func55, Tryd.ntmps55
  go_wp2_with (go_at_call 68; refine (AppendSeq_cells _ _ _ c l _ hBn H.out HT.out).mono ?_; rintro e w1 ⟨v, rfl, hrow, hb⟩)
  go_ret
  exact ⟨v, rfl, hrow, hb⟩

/-- The slice at a (n elements) reads as the list of cells. -/
def CellsAt (w : World) (a : Option Addr) (n : Nat) (cs : List (Nat × Nat)) : Prop :=
  cs.length = n ∧ (n = 0 ∨ ∃ b, a = some ⟨b, 0, none⟩ ∧ ∀ (i : Nat) (p : Nat × Nat), cs[i]? = some p → w.cell? ⟨b, i * 2, none⟩ = some (.int .i64 (p.1 : Int)) ∧ w.cell? ⟨b, i * 2 + 1, none⟩ = some (.int .i64 (p.2 : Int)))
theorem CellsAt.ext {w w' : World} {a : Option Addr} {n : Nat} {cs : List (Nat × Nat)} (h : CellsAt w a n cs) (hE : Ext w w') : CellsAt w' a n cs := by
  refine ⟨h.1, h.2.imp id fun ⟨b, ha, hc⟩ => ⟨b, ha, fun i p hp => ⟨hE.cell (hc i p hp).1, hE.cell (hc i p hp).2⟩⟩⟩
theorem CellsAt.nil (w : World) (a : Option Addr) : CellsAt w a 0 [] := ⟨rfl, .inl rfl⟩
theorem cellVals_at : ∀ {cs : List (Nat × Nat)} {i : Nat} {p : Nat × Nat}, cs[i]? = some p → (cellVals cs)[i * 2]? = some (.int .i64 (p.1 : Int)) ∧ (cellVals cs)[i * 2 + 1]? = some (.int .i64 (p.2 : Int))
  | q :: cs, 0, p, h => by simp at h; subst h; simp [cellVals]
  | q :: cs, i + 1, p, h => by
    have ih := cellVals_at (cs := cs) (i := i) (p := p) (by simpa using h)
    have e : cellVals (q :: cs) = [.int .i64 (q.1 : Int), .int .i64 (q.2 : Int)] ++ cellVals cs := by simp [cellVals]
    rw [e, show (i + 1) * 2 = 2 + i * 2 by omega, show 2 + i * 2 + 1 = 2 + (i * 2 + 1) by omega]
    rw [List.getElem?_append_right (by simp), List.getElem?_append_right (by simp)]
    simpa using ih
theorem CellsAt.own {w : World} {base : Nat} {v : Value} {cs : List (Nat × Nat)} {n : Nat} (hn : cs.length = n) (h : w.ownsRow base 27 2 v n (cellVals cs)) : ∃ a k, v = .slice a n k ∧ CellsAt w a n cs := by
  rcases h.2 with ⟨rfl, h0⟩ | ⟨g, cap, cur, rfl, _, _, _⟩
  · subst h0; exact ⟨none, 0, rfl, hn, .inl rfl⟩
  · refine ⟨some ⟨g, 0, none⟩, cap, rfl, hn, .inr ⟨g, rfl, fun i p hp => ?_⟩⟩
    have hi : i < cs.length := (List.getElem?_eq_some_iff.1 hp).1
    obtain ⟨e1, e2⟩ := cellVals_at hp
    rw [h.cellAt (i * 2) (by omega), h.cellAt (i * 2 + 1) (by omega)]
    exact ⟨e1, e2⟩

set_option maxHeartbeats 1000000 in
theorem Cells_v {w0 : World} {b o : Nat} (c : Nat) {l : List Int} (w : World) (h : VA w0 b o l) (hE : Ext w0 w) (hT : Tab w) :
    Calls Tryd.prog 27 #[.agg #[.slice (some ⟨b, o, none⟩) 24 c]] w fun e w' => ∃ a k, e = .returned (.slice a (Globe.cellsTo l 24).length k) ∧ CellsAt w' a (Globe.cellsTo l 24).length (Globe.cellsTo l 24) ∧ Ext w w' := by
  replace h := h.ext hE
  clear hE
  have HT := Lib.hid hT; clear hT
  go_enter Tryd.func27, Tryd.ntmps27
  go_wp2_with (first | (go_at_call 22; refine (Valid_e _ _ h.aa (by (repeat' (first | (with_reducible assumption) | (with_reducible exact Ext.refl _) | (with_reducible refine Ext.alloc ?_ _) | (with_reducible refine Ext.drew ?_) | (with_reducible refine Ext.drewN ?_ _) | (with_reducible refine Ext.setCell ?_ ?_ _) | (with_reducible refine Ext.trans ?_ (by assumption)) | go_size)))).mono ?_; rintro e w1 ⟨rfl, hb⟩; have hc := hb.cellE; have hf := hb.frozenE; have hz := hb.size; have ha := alloc_keeps w1; (try simp only [World.size_alloc] at hc hf hz); (try simp only [World.size_setCell] at hc hf hz); (try simp only [World.size_drew] at hc hf hz)) | (go_at_call 54; refine (cells_c _ _ _ _).mono ?_; rintro e w' ⟨rfl, rfl⟩) | (go_at_call 55; refine (Collect_cells _ _ _ c l _ (by simp [go_sem]; done) (h.ext (by (repeat' (first | (with_reducible assumption) | (with_reducible exact Ext.refl _) | (with_reducible refine Ext.alloc ?_ _) | (with_reducible refine Ext.drew ?_) | (with_reducible refine Ext.drewN ?_ _) | (with_reducible refine Ext.setCell ?_ ?_ _) | (with_reducible refine Ext.trans ?_ (by assumption)) | go_size)))) (HT.out.ext (by (repeat' (first | (with_reducible assumption) | (with_reducible exact Ext.refl _) | (with_reducible refine Ext.alloc ?_ _) | (with_reducible refine Ext.drew ?_) | (with_reducible refine Ext.drewN ?_ _) | (with_reducible refine Ext.setCell ?_ ?_ _) | (with_reducible refine Ext.trans ?_ (by assumption)) | go_size))))).mono ?_; rintro e w2 ⟨v, rfl, hrow, hb2⟩))
  go_ret
  obtain ⟨a, k, rfl, hc2⟩ := CellsAt.own rfl hrow
  exact ⟨a, k, rfl, hc2, by (repeat' (first | (with_reducible assumption) | (with_reducible exact Ext.refl _) | (with_reducible refine Ext.alloc ?_ _) | (with_reducible refine Ext.drew ?_) | (with_reducible refine Ext.drewN ?_ _) | (with_reducible refine Ext.setCell ?_ ?_ _) | (with_reducible refine Ext.trans ?_ (by assumption)) | go_size))⟩
theorem Cells_n (a : Option Addr) (l : List Int) (n c : Nat) (w : World) (h : AA w a l n false) :
    Calls Tryd.prog 27 #[.agg #[.slice a n c]] w fun e w' => e = .returned (.slice none 0 0) ∧ Ext w w' := by
  go_enter Tryd.func27, Tryd.ntmps27
  go_wp2_with (go_at_call 22; refine (Valid_e _ _ h (by (repeat' (first | (with_reducible assumption) | (with_reducible exact Ext.refl _) | (with_reducible refine Ext.alloc ?_ _) | (with_reducible refine Ext.drew ?_) | (with_reducible refine Ext.drewN ?_ _) | (with_reducible refine Ext.setCell ?_ ?_ _) | (with_reducible refine Ext.trans ?_ (by assumption)) | go_size)))).mono ?_; rintro e w1 ⟨rfl, hb⟩; have hc := hb.cellE; have hf := hb.frozenE; have hz := hb.size; have ha := alloc_keeps w1; (try simp only [World.size_alloc] at hc hf hz); (try simp only [World.size_setCell] at hc hf hz); (try simp only [World.size_drew] at hc hf hz))
  go_ret
  exact ⟨rfl, by (repeat' (first | (with_reducible assumption) | (with_reducible exact Ext.refl _) | (with_reducible refine Ext.alloc ?_ _) | (with_reducible refine Ext.drew ?_) | (with_reducible refine Ext.drewN ?_ _) | (with_reducible refine Ext.setCell ?_ ?_ _) | (with_reducible refine Ext.trans ?_ (by assumption)) | go_size))⟩
theorem Cells_c {w0 : World} {a : Option Addr} {l : List Int} {n : Nat} (c : Nat) {v : Bool} (w : World) (h : AA w0 a l n v) (hE : Ext w0 w) (hT : Tab w) :
    Calls Tryd.prog 27 #[.agg #[.slice a n c]] w fun e w' => ∃ a k, e = .returned (.slice a (Globe.cellsL l).length k) ∧ CellsAt w' a (Globe.cellsL l).length (Globe.cellsL l) ∧ Ext w w' := by
  replace h := h.ext hE
  unfold Globe.cellsL
  rw [h.2.2.2]
  cases v
  · exact (Cells_n a l n c w h).mono fun e w' ⟨he, hE⟩ => ⟨none, 0, he, CellsAt.nil _ _, hE⟩
  · obtain ⟨b, o, rfl, rfl, r⟩ := h.va
    exact Cells_v c w r (Ext.refl _) hT
/-- How many cells. -/
theorem Count_c {w0 : World} {a : Option Addr} {l : List Int} {n : Nat} (c : Nat) {v : Bool} (w : World) (h : AA w0 a l n v) (hE : Ext w0 w) (hT : Tab w) :
    Calls Tryd.prog 24 #[.agg #[.slice a n c]] w fun e w' => e = .returned (.int .i64 (Globe.countL l : Nat)) ∧ Ext w w' := by
  replace h := h.ext hE
  obtain ⟨h1, rfl, h3, h4⟩ := h
  unfold Globe.countL Globe.cellsL
  rw [h4]
  cases v
  · exact Count_no a l c w h1 h3 h4
  · obtain ⟨b, o, rfl, hr⟩ := h1.rows (Globe.len_of_valid h4)
    have := Globe.len_of_valid h4
    exact Count_yes b o c l w (fun i hi => hr i (by omega)) h4 hT
theorem Count_v {w0 : World} {b o : Nat} (c : Nat) {l : List Int} (w : World) (h : VA w0 b o l) (hE : Ext w0 w) (hT : Tab w) :
    Calls Tryd.prog 24 #[.agg #[.slice (some ⟨b, o, none⟩) 24 c]] w fun e w' => e = .returned (.int .i64 ((Globe.cellsTo l 24).length : Nat)) ∧ Ext w w' := by
  have := Count_c c w h.aa hE hT
  unfold Globe.countL Globe.cellsL at this
  rwa [h.2] at this

end Go.Proofs.YtnfknekbbdfdfaaDoor
