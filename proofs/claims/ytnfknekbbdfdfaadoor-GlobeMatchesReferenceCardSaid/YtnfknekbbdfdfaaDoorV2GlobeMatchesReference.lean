/- Part 2 of what the proof of GlobeMatchesReference stands on. -/
import Derived.Test.YtnfknekbbdfdfaaDoorV1GlobeMatchesReference
import Derived.OwnWalk
import Derived.OwnWalkIn
import Derived.Deep.CutRange
import Derived.Deep.LoopGhost
/- Contracts of the reference of package globe: ValidCell, Valid, has, Cells, Count. -/
namespace Go.Proofs.YtnfknekbbdfdfaaDoor
open Go.RowKit

theorem has_nil {l : List Int} {n : Nat} (hn : l.length = n) (h24 : n ≠ 24) : Globe.validL l = false := by
  rw [Bool.eq_false_iff]; intro h; exact h24 (by rw [← hn]; exact Globe.len_of_valid h)
theorem bad_row {l : List Int} {k : Nat} (hk : k < l.length) (h : Globe.rowOk (Globe.nth l k) = false) : Globe.validL l = false := by
  rw [Bool.eq_false_iff]; intro hv
  have := (Globe.validL_t.1 hv).2 _ (Globe.nth_mem hk)
  rw [← Globe.rowOk_t, h] at this
  cases this
theorem all_rows {l : List Int} (hl : l.length = 24) (h : ∀ j, j < 24 → Globe.rowOk (Globe.nth l j) = true) : Globe.validL l = true :=
  Globe.validL_t.2 ⟨hl, fun r hr => by
    obtain ⟨i, hi, rfl⟩ := Globe.mem_nth hr
    exact Globe.rowOk_t.1 (h i (by omega))⟩

set_option maxHeartbeats 2000000 in
theorem rValid_c {w0 : World} {a : Option Addr} {l : List Int} {n : Nat} (c : Nat) {v : Bool} (w : World) (h : AA w0 a l n v) (hE : Ext w0 w) :
    Calls Tryd.prog 23 #[.agg #[.slice a n c]] w fun e w' => e = .returned (.bool v) ∧ Ext w w' := by
  obtain ⟨h1, hn, hl, hv⟩ := h.ext hE
  clear hE h
  rcases Nat.eq_zero_or_pos n with h0 | h0
  · subst h0
    obtain rfl := List.length_eq_zero_iff.1 hn
    obtain rfl : v = false := by rw [← hv]; exact has_nil rfl (by simp)
    clear h1 hn hv hl
    go_enter Tryd.func23, Tryd.ntmps23
    go_wp2_with fail
    refine wp_loop_rounds 1 ?_
    rw [rounds_succ]
    go_wp2_with fail
    go_ret
    exact ⟨rfl, by (repeat' (first | (with_reducible assumption) | (with_reducible exact Ext.refl _) | (with_reducible refine Ext.alloc ?_ _) | (with_reducible refine Ext.drew ?_) | (with_reducible refine Ext.drewN ?_ _) | (with_reducible refine Ext.setCell ?_ ?_ _) | (with_reducible refine Ext.trans ?_ (by assumption)) | go_size))⟩
  · obtain ⟨b, off, rfl, hr⟩ : ∃ b off, a = some ⟨b, off, none⟩ ∧ ∀ i, i < n → w.cell? ⟨b, off + i, none⟩ = some (.int .i64 (Globe.nth l i)) := by
      rcases h1 with rfl | ⟨b, off, rfl, h⟩
      · simp at hn; omega
      · exact ⟨b, off, rfl, fun i hi => h i (by omega)⟩
    have HR := Lib.hid hr; have Hn := Lib.hid hn; have Hv := Lib.hid hv
    clear h1 hr hn hv
    go_enter Tryd.func23, Tryd.ntmps23
    go_wp2_with fail
    refine wp_name (fun V => Ext w V ∧ V.cell? ⟨w.heap.size, 0, none⟩ = some (.slice (some ⟨b, off, none⟩) n c)) ⟨by (repeat' (first | (with_reducible assumption) | (with_reducible exact Ext.refl _) | (with_reducible refine Ext.alloc ?_ _) | (with_reducible refine Ext.drew ?_) | (with_reducible refine Ext.drewN ?_ _) | (with_reducible refine Ext.setCell ?_ ?_ _) | (with_reducible refine Ext.trans ?_ (by assumption)) | go_size)), by simp [go_sem]⟩ ?_
    rintro V ⟨hV, k1⟩
    go_loopw [3] (fun p wr => ∃ k : Nat, k ≤ n ∧ k ≤ 25 ∧ p = .int .i64 k ∧ Hid (∀ j, j < k → Globe.rowOk (Globe.nth l j) = true) ∧ Ext V wr) (fun p _ => 25 - (intOf p).toNat)
    case atStart => exact ⟨0, by omega, by omega, rfl, fun j hj => by omega, Ext.refl _⟩
    case round =>
      obtain ⟨k, hk, hk25, rfl, Hp, hE⟩ := hrel
      replace k1 := hE.cell k1
      by_cases hlt : k < n
      · by_cases hl5 : k < 25
        · have d1 : wr.cell? ⟨b, off + k, none⟩ = some (.int .i64 (Globe.nth l k)) := hE.cell (hV.cell (HR.out k hlt))
          have kk0 : (0 : Int) ≤ (k : Int) := by omega
          have kk1 : (k : Int) < (n : Int) := by omega
          cases hq : Globe.rowOk (Globe.nth l k)
          · have hf : v = false := by rw [← Hv.out]; exact bad_row (by rw [Hn.out]; exact hlt) hq
            have Hf := Lib.hid hf; clear hf
            have hq' := Globe.rowOk_f.1 hq
            clear hq
            generalize Globe.nth l k = x at *
            by_cases hx : x < 0
            · clear hq'
              go_wp2_with fail
              go_ret
              exact ⟨ret_bool Hf.out.symm, by (repeat' (first | (with_reducible assumption) | (with_reducible exact Ext.refl _) | (with_reducible refine Ext.alloc ?_ _) | (with_reducible refine Ext.drew ?_) | (with_reducible refine Ext.drewN ?_ _) | (with_reducible refine Ext.setCell ?_ ?_ _) | (with_reducible refine Ext.trans ?_ (by assumption)) | go_size))⟩
            · have hx2 : 281474976710656 ≤ x := by omega
              clear hq'
              go_wp2_with fail
              go_ret
              exact ⟨ret_bool Hf.out.symm, by (repeat' (first | (with_reducible assumption) | (with_reducible exact Ext.refl _) | (with_reducible refine Ext.alloc ?_ _) | (with_reducible refine Ext.drew ?_) | (with_reducible refine Ext.drewN ?_ _) | (with_reducible refine Ext.setCell ?_ ?_ _) | (with_reducible refine Ext.trans ?_ (by assumption)) | go_size))⟩
          · have hq' := Globe.rowOk_t.1 hq
            have Hq := Lib.hid hq; clear hq
            obtain ⟨q1, q2⟩ := hq'
            have q3 : ¬ 281474976710656 ≤ Globe.nth l k := by omega
            have q4 : ¬ Globe.nth l k < 0 := by omega
            go_wp2_with fail
            go_roundw
            case rel => exact ⟨k + 1, by omega, by omega, by go_num, fun j hj => by
              rcases Nat.lt_or_ge j k with h | h
              · exact Hp.out j h
              · rw [show j = k by omega]; exact Hq.out, by (repeat' (first | (with_reducible assumption) | (with_reducible exact Ext.refl _) | (with_reducible refine Ext.alloc ?_ _) | (with_reducible refine Ext.drew ?_) | (with_reducible refine Ext.drewN ?_ _) | (with_reducible refine Ext.setCell ?_ ?_ _) | (with_reducible refine Ext.trans ?_ (by assumption)) | go_size))⟩
            case measure => simp [intOf]; omega
        · obtain rfl : k = 25 := by omega
          have hf : v = false := by rw [← Hv.out]; exact has_nil Hn.out (by omega)
          subst hf
          have hn24 : ((n : Int) == 24) = false := by simp; omega
          have hn24' : (n == 24) = false := by simp; omega
          have hn24'' : ¬ n = 24 := by omega
          go_wp2_with fail
          go_ret
          exact ⟨rfl, by (repeat' (first | (with_reducible assumption) | (with_reducible exact Ext.refl _) | (with_reducible refine Ext.alloc ?_ _) | (with_reducible refine Ext.drew ?_) | (with_reducible refine Ext.drewN ?_ _) | (with_reducible refine Ext.setCell ?_ ?_ _) | (with_reducible refine Ext.trans ?_ (by assumption)) | go_size))⟩
      · obtain rfl : k = n := by omega
        by_cases h24 : k = 24
        · subst h24
          have ht : v = true := by rw [← Hv.out]; exact all_rows Hn.out Hp.out
          subst ht
          go_wp2_with fail
          go_ret
          exact ⟨rfl, by (repeat' (first | (with_reducible assumption) | (with_reducible exact Ext.refl _) | (with_reducible refine Ext.alloc ?_ _) | (with_reducible refine Ext.drew ?_) | (with_reducible refine Ext.drewN ?_ _) | (with_reducible refine Ext.setCell ?_ ?_ _) | (with_reducible refine Ext.trans ?_ (by assumption)) | go_size))⟩
        · have hf : v = false := by rw [← Hv.out]; exact has_nil Hn.out h24
          subst hf
          have hn24 : ((k : Int) == 24) = false := by simp; omega
          have hn24' : (k == 24) = false := by simp; omega
          by_cases h25 : k < 25
          · go_wp2_with fail
            go_ret
            exact ⟨rfl, by (repeat' (first | (with_reducible assumption) | (with_reducible exact Ext.refl _) | (with_reducible refine Ext.alloc ?_ _) | (with_reducible refine Ext.drew ?_) | (with_reducible refine Ext.drewN ?_ _) | (with_reducible refine Ext.setCell ?_ ?_ _) | (with_reducible refine Ext.trans ?_ (by assumption)) | go_size))⟩
          · go_wp2_with fail
            go_ret
            exact ⟨rfl, by (repeat' (first | (with_reducible assumption) | (with_reducible exact Ext.refl _) | (with_reducible refine Ext.alloc ?_ _) | (with_reducible refine Ext.drew ?_) | (with_reducible refine Ext.drewN ?_ _) | (with_reducible refine Ext.setCell ?_ ?_ _) | (with_reducible refine Ext.trans ?_ (by assumption)) | go_size))⟩

/-- Whether a valid area has a cell. -/
theorem rhas_v {w0 : World} {b o : Nat} (c : Nat) {l : List Int} {x y : Nat} {r : Bool} (w : World) (h : VA w0 b o l) (hE : Ext w0 w) (hx : x < 48) (hy : y < 24) (hr : Globe.hasL l x y = r) :
    Calls Tryd.prog 56 #[.agg #[.slice (some ⟨b, o, none⟩) 24 c], .int .i64 (x : Int), .int .i64 (y : Int)] w fun e w' => e = .returned (.bool r) ∧ Ext w w' := by
  replace h := h.ext hE
  clear hE
  have d := h.cell hy
  have hbl := h.lt
  have hm := bit_mod2 (Globe.rowN l y) x
  have hge : (0 : Int) ≤ ((Globe.rowN l y : Nat) : Int) / 2 ^ x := by rw [div_pow_cast]; exact Int.natCast_nonneg _
  have ht : (((Globe.rowN l y : Nat) : Int) / 2 ^ x).tmod 2 = ((Globe.rowN l y : Nat) : Int) / 2 ^ x % 2 := Int.tmod_eq_emod_of_nonneg hge
  have hh : Globe.hasL l x y = (Globe.rowN l y).testBit x := rfl
  rw [hm] at ht
  have y0 : (0 : Int) ≤ (y : Int) := by omega
  have y1 : (y : Int) < 24 := by omega
  have x0 : (0 : Int) ≤ (x : Int) := by omega
  have x1 : (x : Int) < 48 := by omega
  rw [hr] at hh
  rw [← hh] at hm ht
  clear hh hr h
  generalize Globe.rowN l y = R at *
  cases r
  · rw [if_neg (by simp)] at hm ht
    go_enter Tryd.func56, Tryd.ntmps56
    go_wp2
    go_ret
    exact ⟨rfl, by (repeat' (first | (with_reducible assumption) | (with_reducible exact Ext.refl _) | (with_reducible refine Ext.alloc ?_ _) | (with_reducible refine Ext.drew ?_) | (with_reducible refine Ext.drewN ?_ _) | (with_reducible refine Ext.setCell ?_ ?_ _) | (with_reducible refine Ext.trans ?_ (by assumption)) | go_size))⟩
  · rw [if_pos rfl] at hm ht
    go_enter Tryd.func56, Tryd.ntmps56
    go_wp2
    go_ret
    exact ⟨rfl, by (repeat' (first | (with_reducible assumption) | (with_reducible exact Ext.refl _) | (with_reducible refine Ext.alloc ?_ _) | (with_reducible refine Ext.drew ?_) | (with_reducible refine Ext.drewN ?_ _) | (with_reducible refine Ext.setCell ?_ ?_ _) | (with_reducible refine Ext.trans ?_ (by assumption)) | go_size))⟩

/-- A list of cells. -/
def RetCells (w : World) (cs : List (Nat × Nat)) (e : Ending) (w' : World) : Prop := ∃ (a : Option Addr) (k : Nat), e = .returned (.slice a cs.length k) ∧ CellsAt w' a cs.length cs ∧ (∀ ad, a = some ad → w.heap.size ≤ ad.block) ∧ Ext w w'
/-- The cells of a row below a column. -/
def rowTo (l : List Int) (y x : Nat) : List (Nat × Nat) := ((List.range x).filter fun i => Globe.hasL l i y).map fun i => (i, y)
theorem rowTo_zero (l : List Int) (y : Nat) : rowTo l y 0 = [] := by simp [rowTo]
theorem rowTo_yes {l : List Int} {y x : Nat} (h : Globe.hasL l x y = true) : rowTo l y (x + 1) = rowTo l y x ++ [(x, y)] := by
  unfold rowTo
  rw [List.range_succ, List.filter_append, List.map_append]
  simp [h]
theorem rowTo_no {l : List Int} {y x : Nat} (h : Globe.hasL l x y = false) : rowTo l y (x + 1) = rowTo l y x := by
  unfold rowTo
  rw [List.range_succ, List.filter_append, List.map_append]
  simp [h]
theorem rowTo_all (l : List Int) (y : Nat) : rowTo l y 48 = Globe.rowCells l y := rfl
theorem rowTo_len (l : List Int) (y x : Nat) : (rowTo l y x).length ≤ x := by
  unfold rowTo
  rw [List.length_map]
  exact Nat.le_trans (List.length_filter_le _ _) (by simp)

set_option maxHeartbeats 2000000 in
theorem rCells_v {w0 : World} {b o : Nat} (c : Nat) {l : List Int} (w : World) (h : VA w0 b o l) (hE : Ext w0 w) :
    Calls Tryd.prog 28 #[.agg #[.slice (some ⟨b, o, none⟩) 24 c]] w (RetCells w (Globe.cellsTo l 24)) := by
  replace h := h.ext hE
  clear hE
  obtain ⟨i0, hi, hz0, hz1, hz2⟩ := info_parts (P := Tryd.prog) (e := 27) (z := .agg #[.int .i64 0, .int .i64 0]) (size := 2) (bytes := 16) (by kernel_rfl)
  go_enter Tryd.func28, Tryd.ntmps28
  go_wp2_with fail
  refine (rValid_c c _ h.aa (by (repeat' (first | (with_reducible assumption) | (with_reducible exact Ext.refl _) | (with_reducible refine Ext.alloc ?_ _) | (with_reducible refine Ext.drew ?_) | (with_reducible refine Ext.drewN ?_ _) | (with_reducible refine Ext.setCell ?_ ?_ _) | (with_reducible refine Ext.trans ?_ (by assumption)) | go_size)))).mono ?_
  rintro e w1 ⟨rfl, hb⟩
  have hc := hb.cellE; have hf := hb.frozenE; have hz := hb.size; have ha := alloc_keeps w1; (try simp only [World.size_alloc] at hc hf hz); (try simp only [World.size_setCell] at hc hf hz); (try simp only [World.size_drew] at hc hf hz)
  go_wp2_with fail
  refine wp_name (fun V => Ext w V ∧ V.cell? ⟨w.heap.size, 0, none⟩ = some (.slice (some ⟨b, o, none⟩) 24 c)) ⟨by (repeat' (first | (with_reducible assumption) | (with_reducible exact Ext.refl _) | (with_reducible refine Ext.alloc ?_ _) | (with_reducible refine Ext.drew ?_) | (with_reducible refine Ext.drewN ?_ _) | (with_reducible refine Ext.setCell ?_ ?_ _) | (with_reducible refine Ext.trans ?_ (by assumption)) | go_size)), hb.cell (by simp [go_sem])⟩ ?_
  clear hb hc hf hz ha
  rintro V ⟨hE, k1⟩
  replace h := h.ext hE
  have lk := World.block_lt_of_cell? V _ k1
  have H := Lib.hid h; clear h
  have Hi := Lib.hid (And.intro hi (And.intro hz0 (And.intro hz1 hz2))); clear hi hz0 hz1 hz2
  go_loopw [3, 4] (fun r p wr => ∃ y : Nat, y ≤ 24 ∧ p = .int .i64 y ∧ wr.ownsRow V.heap.size 27 2 r (Globe.cellsTo l y).length (cellVals (Globe.cellsTo l y)) ∧ Ext V wr) (fun _ p _ => 24 - (intOf p).toNat)
  case atStart => exact ⟨0, by omega, rfl, World.ownsRow_nil _ _ _ _, Ext.refl _⟩
  case round =>
    obtain ⟨y, hy, rfl, hrow, e6⟩ := hrel
    have Hrow := Lib.hid hrow; clear hrow
    by_cases hlt : y < 24
    · have y1 : (y : Int) < 24 := by omega
      have y0 : (0 : Int) ≤ (y : Int) := by omega
      go_wp2_with fail
      go_loopw [3, 5] (fun r p wr => ∃ x : Nat, x ≤ 48 ∧ p = .int .i64 x ∧ wr.ownsRow V.heap.size 27 2 r (Globe.cellsTo l y ++ rowTo l y x).length (cellVals (Globe.cellsTo l y ++ rowTo l y x)) ∧ Ext V wr) (fun _ p _ => 48 - (intOf p).toNat)
      case atStart => exact ⟨0, by omega, rfl, by rw [rowTo_zero, List.append_nil]; exact Hrow.out, e6⟩
      case round =>
        clear e6
        obtain ⟨x, hx, rfl, hrow, e6⟩ := hrel
        have Hrow := Lib.hid hrow; clear hrow
        by_cases hlx : x < 48
        · have x1 : (x : Int) < 48 := by omega
          have x0 : (0 : Int) ≤ (x : Int) := by omega
          have k2 := e6.cell k1
          cases hh : Globe.hasL l x y
          · have HH := Lib.hid hh; clear hh
            go_wp2_with fail
            refine (rhas_v c _ H.out e6 hlx hlt HH.out).mono ?_
            rintro e w1 ⟨rfl, hb⟩
            go_wp2_with fail
            go_roundw
            case rel => exact ⟨x + 1, by omega, by go_num, by rw [rowTo_no HH.out]; exact own_ext Hrow.out hb, e6.trans hb⟩
            case measure => simp [intOf]; omega
          · have HH := Lib.hid hh; clear hh
            go_wp2_with fail
            refine (rhas_v c _ H.out e6 hlx hlt HH.out).mono ?_
            rintro e w1 ⟨rfl, hb⟩
            have hlen : (Globe.cellsTo l y ++ rowTo l y x).length ≤ 1152 := by
              have e1 := Globe.cellsTo_len l y
              have e2 := rowTo_len l y x
              rw [List.length_append]; omega
            have hs6 := (e6.trans hb).size
            go_wp2_with (at_builtin; refine wpList_append_own _ rfl _ _ 36 rfl V.heap.size 27 i0 (.agg #[.int .i64 0, .int .i64 0]) 2 16 Tryd.underlying36 Hi.out.1 Hi.out.2.1 Hi.out.2.2.1 Hi.out.2.2.2 rfl (by decide) _ _ _ rfl ((own_ext Hrow.out hb).alloc _) ⟨w1.heap.size, 0, none⟩ 1 1 [.int .i64 (x : Int), .int .i64 (y : Int)] rfl rfl (cell_two_new _ _ _ _) (by simp [Value.oneCell']) (by unfold maxLen; omega) (by omega) (by simp; omega) ?_; intro v' w3 hown' hg3 hnil3; go_frame)
            have hE3 := Ext.own (Ext.alloc (e6.trans hb) _) ((own_ext Hrow.out hb).alloc _) hg3
            go_roundw
            case rel =>
              refine ⟨x + 1, by omega, by go_num, ?_, hE3⟩
              rw [rowTo_yes HH.out, ← List.append_assoc, cellVals_snoc, List.length_append]
              exact hown'
            case measure => simp [intOf]; omega
        · obtain rfl : x = 48 := by omega
          go_wp2_with fail
          go_roundw
          case rel => exact ⟨y + 1, by omega, by go_num, by rw [Globe.cellsTo_succ, ← rowTo_all]; exact Hrow.out, e6⟩
          case measure => simp [intOf]; omega
    · obtain rfl : y = 24 := by omega
      go_wp2_with fail
      go_ret
      obtain ⟨a, k, rfl, hc2⟩ := CellsAt.own rfl Hrow.out
      exact ⟨a, k, rfl, hc2, fun ad e => by subst e; exact Nat.le_trans hE.size (Hrow.out.lt ad.block rfl).1, by (repeat' (first | (with_reducible assumption) | (with_reducible exact Ext.refl _) | (with_reducible refine Ext.alloc ?_ _) | (with_reducible refine Ext.drew ?_) | (with_reducible refine Ext.drewN ?_ _) | (with_reducible refine Ext.setCell ?_ ?_ _) | (with_reducible refine Ext.trans ?_ (by assumption)) | go_size))⟩
theorem rCells_c {w0 : World} {a : Option Addr} {l : List Int} {n : Nat} (c : Nat) {v : Bool} (w : World) (h : AA w0 a l n v) (hE : Ext w0 w) :
    Calls Tryd.prog 28 #[.agg #[.slice a n c]] w (RetCells w (Globe.cellsL l)) := by
  replace h := h.ext hE
  unfold Globe.cellsL
  rw [h.2.2.2]
  cases v
  · have H := Lib.hid h; clear h hE
    go_enter Tryd.func28, Tryd.ntmps28
    go_wp2_with fail
    refine (rValid_c c _ H.out (by (repeat' (first | (with_reducible assumption) | (with_reducible exact Ext.refl _) | (with_reducible refine Ext.alloc ?_ _) | (with_reducible refine Ext.drew ?_) | (with_reducible refine Ext.drewN ?_ _) | (with_reducible refine Ext.setCell ?_ ?_ _) | (with_reducible refine Ext.trans ?_ (by assumption)) | go_size)))).mono ?_
    rintro e w1 ⟨rfl, hb⟩
    go_wp2_with fail
    go_ret
    exact ⟨none, 0, rfl, CellsAt.nil _ _, fun ad e => (by cases e), by (repeat' (first | (with_reducible assumption) | (with_reducible exact Ext.refl _) | (with_reducible refine Ext.alloc ?_ _) | (with_reducible refine Ext.drew ?_) | (with_reducible refine Ext.drewN ?_ _) | (with_reducible refine Ext.setCell ?_ ?_ _) | (with_reducible refine Ext.trans ?_ (by assumption)) | go_size))⟩
  · obtain ⟨b, o, rfl, rfl, r⟩ := h.va
    exact rCells_v c w r (Ext.refl _)
theorem rCount_c {w0 : World} {a : Option Addr} {l : List Int} {n : Nat} (c : Nat) {v : Bool} (w : World) (h : AA w0 a l n v) (hE : Ext w0 w) :
    Calls Tryd.prog 25 #[.agg #[.slice a n c]] w fun e w' => e = .returned (.int .i64 (Globe.countL l : Nat)) ∧ Ext w w' := by
  have H := Lib.hid (h.ext hE); clear h hE
  go_enter Tryd.func25, Tryd.ntmps25
  go_wp2_with fail
  refine (rCells_c c _ H.out (by (repeat' (first | (with_reducible assumption) | (with_reducible exact Ext.refl _) | (with_reducible refine Ext.alloc ?_ _) | (with_reducible refine Ext.drew ?_) | (with_reducible refine Ext.drewN ?_ _) | (with_reducible refine Ext.setCell ?_ ?_ _) | (with_reducible refine Ext.trans ?_ (by assumption)) | go_size)))).mono ?_
  rintro e w1 ⟨a1, k, rfl, -, -, hb⟩
  go_wp2_with fail
  go_ret
  exact ⟨rfl, by (repeat' (first | (with_reducible assumption) | (with_reducible exact Ext.refl _) | (with_reducible refine Ext.alloc ?_ _) | (with_reducible refine Ext.drew ?_) | (with_reducible refine Ext.drewN ?_ _) | (with_reducible refine Ext.setCell ?_ ?_ _) | (with_reducible refine Ext.trans ?_ (by assumption)) | go_size))⟩

end Go.Proofs.YtnfknekbbdfdfaaDoor

/- few, in chapter 5's laws; the opener of an array of four ints. -/
namespace Go.Proofs.YtnfknekbbdfdfaaDoor
open Go.ChangeShapes Go.WideShapes Go.ChangeAt Go.RowKit Go.Deep

def few25 (l : List Int) : List Int := l.take 25
theorem nth_take {l : List Int} {k i : Nat} (h : i < k) : Globe.nth (l.take k) i = Globe.nth l i := by unfold Globe.nth; rw [List.getElem?_take_of_lt h]
theorem few_at {w : World} {a : Option Addr} {l : List Int} (h : IntsAt w a l) : AA w a (few25 l) (min l.length 25) (Globe.validL (few25 l)) := by
  refine ⟨?_, by unfold few25; rw [List.length_take, Nat.min_comm], by omega, rfl⟩
  rcases h with rfl | ⟨b, off, rfl, h⟩
  · exact .inl rfl
  · refine .inr ⟨b, off, rfl, fun i hi => ?_⟩
    unfold few25 at hi ⊢
    rw [List.length_take] at hi
    rw [nth_take (by omega)]
    exact h i (by omega)
set_option maxHeartbeats 1000000 in
theorem few_c (a : Option Addr) (n c : Nat) (w : World) (ha : n = 0 ∨ ∃ b off, a = some ⟨b, off, none⟩) (hc : n ≤ c) (hc2 : c ≤ 9223372036854775807) (h0 : a = none → c = 0) :
    Calls Tryd.prog 13 #[.agg #[.slice a n c]] w fun e w' => e = .returned (.agg #[.slice a (min n 25) c]) ∧ Ext w w' := by
  by_cases h25 : n ≤ 25
  · have hm : min n 25 = n := by omega
    rw [hm]
    clear hm
    have k1 : ¬ (25 : Int) < (n : Int) := by omega
    have k2 : (n : Int) ≤ (c : Int) := by omega
    go_enter Tryd.func13, Tryd.ntmps13
    go_wp2_with fail
    refine bodyPost_ret (v := .agg #[.slice a n c]) (by simp [results, Tryd.results13, go_sem]) rfl ⟨rfl, by (repeat' (first | (with_reducible assumption) | (with_reducible exact Ext.refl _) | (with_reducible refine Ext.alloc ?_ _) | (with_reducible refine Ext.drew ?_) | (with_reducible refine Ext.drewN ?_ _) | (with_reducible refine Ext.setCell ?_ ?_ _) | (with_reducible refine Ext.trans ?_ (by assumption)) | go_size))⟩
  · have hm : min n 25 = 25 := by omega
    rw [hm]
    clear hm
    have k1 : (25 : Int) < (n : Int) := by omega
    have k2 : (25 : Int) ≤ (c : Int) := by omega
    obtain ⟨b, off, rfl⟩ := ha.resolve_left (by omega)
    go_enter Tryd.func13, Tryd.ntmps13
    go_wp2_with fail
    refine bodyPost_ret (v := .agg #[.slice (some ⟨b, off, none⟩) 25 c]) (by simp [results, Tryd.results13, go_sem]) rfl ⟨rfl, by (repeat' (first | (with_reducible assumption) | (with_reducible exact Ext.refl _) | (with_reducible refine Ext.alloc ?_ _) | (with_reducible refine Ext.drew ?_) | (with_reducible refine Ext.drewN ?_ _) | (with_reducible refine Ext.setCell ?_ ?_ _) | (with_reducible refine Ext.trans ?_ (by assumption)) | go_size))⟩

def Four (v : Value) : Prop := ∃ q0 q1 q2 q3 : Int, v = .agg #[.int .i64 q0, .int .i64 q1, .int .i64 q2, .int .i64 q3] ∧ IsI q0 ∧ IsI q1 ∧ IsI q2 ∧ IsI q3
section
variable {H : Type} {enc : TypeId × Value → H} {W : World}
theorem open_four {b0 : Nat} {v : Value} {d : DataW H} {p : List MemPlace} (hval : Value.okWide Tryd.prog W .any b0 28 v) (h : DataW.Trod enc Tryd.prog W 0 (fun _ => true) true 28 v d p) : Four v := by
  have hu := Tryd.underlying28
  simp only [Value.okWide, hu] at hval
  obtain ⟨cs, rfl, hsz, _⟩ := hval
  have h2 : Tryd.prog.cellsOf 28 = 4 := by kernel_rfl
  obtain ⟨fuel, hf⟩ := h
  have hl : cs.toList.length = 4 := by rw [Array.length_toList, hsz, h2]
  obtain ⟨q, hq⟩ := ints_of_array hu hf (by simpa [Value.cells] using hl)
  obtain ⟨l⟩ := cs
  match l, hl with
  | [x0, x1, x2, x3], _ =>
    have e0 := hq 0 (by omega)
    have e1 := hq 1 (by omega)
    have e2 := hq 2 (by omega)
    have e3 := hq 3 (by omega)
    simp [Value.cells] at e0 e1 e2 e3
    exact ⟨q 0, q 1, q 2, q 3, by rw [e0.1, e1.1, e2.1, e3.1], e0.2, e1.2, e2.2, e3.2⟩
end

/-- Two orders that meet again. -/
theorem rg_join {P : Program} {md : Region.Mode} {ops : Array Oper} {Q : Exit → Act → World → Prop} {S : World → Prop} {fuel Fu : Nat} {listed li : Array Bool} {a : Act} {w : World}
    (F : Nat → Option Addr → Nat → Act) (R : Nat → Option Addr → Nat → World → Prop)
    (hmain : (∀ O x k w', R O x k w' → wpAnyH P md ops Q S Fu li (F O x k) w') → wpAnyH P md ops Q S fuel listed a w)
    (hrest : ∀ O x k w', R O x k w' → wpAnyH P md ops Q S Fu li (F O x k) w') : wpAnyH P md ops Q S fuel listed a w := hmain hrest

end Go.Proofs.YtnfknekbbdfdfaaDoor

/- How many cells an area has; distances of cells. Plain mathematics. -/
namespace Go.Proofs.YtnfknekbbdfdfaaDoor
namespace Globe

def allCells (n : Nat) : List (Nat × Nat) := (List.range n).flatMap fun y => (List.range 48).map fun x => (x, y)
theorem cellsTo_filter (l : List Int) (n : Nat) : cellsTo l n = (allCells n).filter fun p => hasL l p.1 p.2 := by
  unfold cellsTo allCells
  rw [List.filter_flatMap]
  congr 1
  funext y
  unfold rowCells bitsN
  rw [List.filter_map]
  rfl
theorem mem_all {n : Nat} {p : Nat × Nat} : p ∈ allCells n ↔ p.1 < 48 ∧ p.2 < n := by
  obtain ⟨x, y⟩ := p
  simp only [allCells, List.mem_flatMap, List.mem_range, List.mem_map, Prod.mk.injEq]
  constructor
  · rintro ⟨y', hy, x', hx, rfl, rfl⟩; exact ⟨hx, hy⟩
  · rintro ⟨hx, hy⟩; exact ⟨y, hy, x, hx, rfl, rfl⟩
theorem count_eq (l : List Int) (n : Nat) : (cellsTo l n).length = (allCells n).countP fun p => hasL l p.1 p.2 := by
  rw [cellsTo_filter, List.countP_eq_length_filter]
theorem countP_incl {α : Type} (p q : α → Bool) (l : List α) : (l.countP fun a => p a || q a) + (l.countP fun a => p a && q a) = l.countP p + l.countP q := by
  induction l with
  | nil => rfl
  | cons a l ih =>
    simp only [List.countP_cons]
    cases p a <;> cases q a <;> simp <;> omega
theorem countP_diff {α : Type} (p q : α → Bool) (l : List α) : (l.countP fun a => p a && !q a) + (l.countP fun a => p a && q a) = l.countP p := by
  induction l with
  | nil => rfl
  | cons a l ih =>
    simp only [List.countP_cons]
    cases p a <;> cases q a <;> simp <;> omega
theorem countP_congr' {α : Type} {p q : α → Bool} {l : List α} (h : ∀ a ∈ l, p a = q a) : l.countP p = l.countP q := by
  rw [List.countP_eq_length_filter, List.countP_eq_length_filter, List.filter_congr h]
theorem count_congr {a : List Int} {q : Nat × Nat → Bool} (h : ∀ x y, x < 48 → y < 24 → hasL a x y = q (x, y)) : (cellsTo a 24).length = (allCells 24).countP q := by
  rw [count_eq]
  exact countP_congr' fun p hp => h p.1 p.2 (mem_all.1 hp).1 (mem_all.1 hp).2
theorem count_union (a b : List Int) : (cellsTo (unionL a b) 24).length + (cellsTo (meetL a b) 24).length = (cellsTo a 24).length + (cellsTo b 24).length := by
  rw [count_congr (a := unionL a b) (q := fun p => hasL a p.1 p.2 || hasL b p.1 p.2) fun x y _ hy => has_union hy,
    count_congr (a := meetL a b) (q := fun p => hasL a p.1 p.2 && hasL b p.1 p.2) fun x y _ hy => has_meet hy, countP_incl, count_eq, count_eq]
theorem count_less (a b : List Int) : (cellsTo (lessL a b) 24).length + (cellsTo (meetL a b) 24).length = (cellsTo a 24).length := by
  rw [count_congr (a := lessL a b) (q := fun p => hasL a p.1 p.2 && !hasL b p.1 p.2) fun x y _ hy => has_less hy,
    count_congr (a := meetL a b) (q := fun p => hasL a p.1 p.2 && hasL b p.1 p.2) fun x y _ hy => has_meet hy, countP_diff, count_eq]

/-- The empty area. -/
theorem count_zero_iff {l : List Int} (h : validL l = true) : (cellsTo l 24).length = 0 ↔ l = zeroL := by
  constructor
  · intro e
    have e' : cellsTo l 24 = [] := List.length_eq_zero_iff.1 e
    refine ext_has h valid_zero fun x y hx hy => ?_
    rw [has_zero]
    cases hh : hasL l x y
    · rfl
    · have := (mem_cells (n := 24) (p := (x, y))).2 ⟨hy, hx, hh⟩
      rw [e'] at this
      cases this
  · rintro rfl
    rw [count_eq]
    rw [List.countP_eq_zero]
    intro p _
    rw [has_zero]; simp

/-- Whether an area has all cells of another one. -/
def containsB (a b : List Int) : Bool := validL a && validL b && decide (lessL b a = zeroL)
theorem contains_iff {a b : List Int} (ha : validL a = true) (hb : validL b = true) : containsB a b = true ↔ ∀ x y, x < 48 → y < 24 → hasL b x y = true → hasL a x y = true := by
  unfold containsB
  rw [ha, hb]
  simp only [Bool.true_and, decide_eq_true_eq]
  constructor
  · intro e x y hx hy h
    have := has_less (a := b) (b := a) (x := x) hy
    rw [e, has_zero, h] at this
    simpa using this
  · intro h
    refine ext_has (less_valid hb) valid_zero fun x y hx hy => ?_
    rw [has_zero, has_less hy]
    cases hh : hasL b x y
    · rfl
    · rw [h x y hx hy hh]; rfl
theorem contains_count {a b : List Int} (ha : validL a = true) (hb : validL b = true) : containsB a b = decide ((cellsTo (meetL a b) 24).length = (cellsTo b 24).length) := by
  have h1 := count_less b a
  have h2 : (cellsTo (meetL b a) 24).length = (cellsTo (meetL a b) 24).length := by
    rw [count_congr (a := meetL b a) (q := fun p => hasL a p.1 p.2 && hasL b p.1 p.2) fun x y _ hy => by rw [has_meet hy, Bool.and_comm],
      count_congr (a := meetL a b) (q := fun p => hasL a p.1 p.2 && hasL b p.1 p.2) fun x y _ hy => has_meet hy]
  have h3 := count_zero_iff (less_valid (b := a) hb)
  unfold containsB
  rw [ha, hb, Bool.true_and, Bool.true_and, Bool.eq_iff_iff, decide_eq_true_eq, decide_eq_true_eq, ← h3]
  omega

/-! Shifting keeps the number of cells. -/
theorem rot_map {k : Nat} (hk : k < 48) : (List.range 48).map (fun x => (x + 48 - k) % 48) = (List.range k).map (48 - k + ·) ++ List.range (48 - k) := by
  have e : List.range 48 = List.range k ++ (List.range (48 - k)).map (k + ·) := by rw [← List.range_add]; congr 1; omega
  rw [e, List.map_append, List.map_map]
  congr 1
  · exact List.map_congr_left fun x hx => by have := List.mem_range.1 hx; omega
  · conv => rhs; rw [← List.map_id (List.range (48 - k))]
    exact List.map_congr_left fun x hx => by have := List.mem_range.1 hx; simp only [Function.comp, id]; omega
theorem countP_rot (q : Nat → Bool) {k : Nat} (hk : k < 48) : ((List.range 48).countP fun x => q ((x + 48 - k) % 48)) = (List.range 48).countP q := by
  have e1 : ((List.range 48).countP fun x => q ((x + 48 - k) % 48)) = ((List.range 48).map (fun x => (x + 48 - k) % 48)).countP q := by rw [List.countP_map]; rfl
  have e2 : List.range 48 = List.range (48 - k) ++ (List.range k).map (48 - k + ·) := by rw [← List.range_add]; congr 1; omega
  rw [e1, rot_map hk]
  conv => rhs; rw [e2]
  rw [List.countP_append, List.countP_append]
  omega
theorem countP_all (q : Nat × Nat → Bool) : ∀ n, (allCells n).countP q = ((List.range n).map fun y => (List.range 48).countP fun x => q (x, y)).sum
  | 0 => rfl
  | n + 1 => by
    have := countP_all q n
    unfold allCells at this ⊢
    rw [List.range_succ (n := n), List.flatMap_append, List.countP_append, this, List.map_append, List.sum_append]
    simp [List.countP_map, Function.comp_def]
theorem count_shift {l : List Int} (hl : validL l = true) {k : Nat} (hk : k < 48) : (cellsTo (shiftL l k) 24).length = (cellsTo l 24).length := by
  rw [count_congr (a := shiftL l k) (q := fun p => hasL l ((p.1 + 48 - k) % 48) p.2) fun x y hx hy => has_shift hl hk hx hy, count_eq, countP_all, countP_all]
  congr 1
  exact List.map_congr_left fun y _ => countP_rot (fun x => hasL l x y) hk

/-- How many numbers below n are less than w. -/
theorem countP_lt (w : Nat) : ∀ n, ((List.range n).countP fun x => decide (x < w)) = min w n
  | 0 => by simp
  | n + 1 => by
    rw [List.range_succ, List.countP_append, countP_lt w n]
    by_cases h : n < w
    · simp [h]; omega
    · simp [h]; omega
theorem sum_from (c w : Nat) : ∀ (n cy h : Nat), cy + h ≤ n → ((List.range n).map fun y => if cy ≤ y ∧ y < cy + h then w else 0).sum = w * h
  | 0, cy, h, e => by
    obtain rfl : h = 0 := by omega
    simp
  | n + 1, cy, h, e => by
    rw [List.range_succ, List.map_append, List.sum_append]
    by_cases e2 : cy + h ≤ n
    · rw [sum_from c w n cy h e2]
      simp only [List.map_cons, List.map_nil, List.sum_cons, List.sum_nil]
      rw [if_neg (by omega)]; omega
    · cases h with
      | zero =>
        have : ∀ y, (if cy ≤ y ∧ y < cy + 0 then w else 0) = 0 := fun y => if_neg (by omega)
        simp only [this]
        have z : ∀ m : Nat, ((List.range m).map fun _ => 0).sum = 0 := fun m => by induction m with
          | zero => rfl
          | succ m ih => rw [List.range_succ, List.map_append, List.sum_append, ih]; rfl
        rw [z]; simp
      | succ h =>
        have e3 : cy + h = n := by omega
        have e4 : ((List.range n).map fun y => if cy ≤ y ∧ y < cy + (h + 1) then w else 0) = ((List.range n).map fun y => if cy ≤ y ∧ y < cy + h then w else 0) :=
          List.map_congr_left fun y hy => by
            have := List.mem_range.1 hy
            by_cases c : cy ≤ y
            · rw [if_pos ⟨c, by omega⟩, if_pos ⟨c, by omega⟩]
            · rw [if_neg (by omega), if_neg (by omega)]
        rw [e4, sum_from c w n cy h (by omega)]
        simp only [List.map_cons, List.map_nil, List.sum_cons, List.sum_nil]
        rw [if_pos (by omega), Nat.mul_succ]; omega
theorem count_box {cx cy wide high : Nat} (hc : cx < 48) (hw : wide ≤ 48) (hh : cy + high ≤ 24) : (cellsTo (boxL cx cy wide high) 24).length = wide * high := by
  rw [count_congr (a := boxL cx cy wide high) (q := fun p => decide (cy ≤ p.2 ∧ p.2 < cy + high) && decide ((p.1 + 48 - cx) % 48 < wide)) fun x y hx hy => has_box hc hw hx hy, countP_all]
  rw [← sum_from 0 wide 24 cy high hh]
  congr 1
  refine List.map_congr_left fun y _ => ?_
  dsimp only
  by_cases e : cy ≤ y ∧ y < cy + high
  · rw [if_pos e]
    have := countP_rot (fun x => decide (x < wide)) hc
    rw [countP_lt] at this
    rw [Nat.min_eq_left hw] at this
    rw [show (fun p => decide (cy ≤ y ∧ y < cy + high) && decide ((p + 48 - cx) % 48 < wide)) = fun p => decide ((p + 48 - cx) % 48 < wide) from funext fun p => by simp [e]]
    exact this
  · rw [if_neg e, List.countP_eq_zero]
    intro x _
    simp only [Bool.and_eq_true, decide_eq_true_eq]
    exact fun h => e h.1

end Globe
end Go.Proofs.YtnfknekbbdfdfaaDoor

/- Contracts of package globe: Contains. -/
namespace Go.Proofs.YtnfknekbbdfdfaaDoor
open Go.RowKit

theorem arrayAt_c (B k : Nat) (w : World) : (Instr.arrayAt 73 (.slice (some ⟨B, 0, none⟩) 24 k)).run Tryd.prog w = .ok (.pointer (some ⟨B, 0, none⟩)) w := by kernel_rfl
theorem eql24 {L : List Int} (hL : L.length = 24) (w : World) : (Op.equalIn 10000 73 (.agg (intVals L).toArray) (.agg #[.int .i64 0, .int .i64 0, .int .i64 0, .int .i64 0, .int .i64 0, .int .i64 0, .int .i64 0, .int .i64 0, .int .i64 0, .int .i64 0, .int .i64 0, .int .i64 0, .int .i64 0, .int .i64 0, .int .i64 0, .int .i64 0, .int .i64 0, .int .i64 0, .int .i64 0, .int .i64 0, .int .i64 0, .int .i64 0, .int .i64 0, .int .i64 0])).run Tryd.prog w = .ok (decide (L = Globe.zeroL)) w :=
  equalIn_rows (P := Tryd.prog) 73 3 Tryd.underlying73 (by kernel_rfl) (by kernel_rfl) (by kernel_rfl) Tryd.underlying3 L hL w
theorem size24 {L : List Int} (hL : L.length = 24) : (Tryd.prog.info? 73).map (·.size) = some (intVals L).length := by rw [show (intVals L).length = 24 by simp [intVals, hL]]; kernel_rfl

set_option maxHeartbeats 1000000 in
theorem Contains_v {w1 w2 : World} {b1 o1 b2 o2 : Nat} (c1 c2 : Nat) {l1 l2 : List Int} (w : World) (h1 : VA w1 b1 o1 l1) (e1 : Ext w1 w) (h2 : VA w2 b2 o2 l2) (e2 : Ext w2 w) :
    Calls Tryd.prog 43 #[.agg #[.slice (some ⟨b1, o1, none⟩) 24 c1], .agg #[.slice (some ⟨b2, o2, none⟩) 24 c2]] w fun e w' => e = .returned (.bool (Globe.containsB l1 l2)) ∧ Ext w w' := by
  replace h1 := h1.ext e1
  replace h2 := h2.ext e2
  clear e1 e2
  have hr : Globe.containsB l1 l2 = decide (Globe.lessL l2 l1 = Globe.zeroL) := by rw [Globe.containsB, h1.2, h2.2]; rfl
  have Hr := Lib.hid hr; clear hr
  have ha1 := arrayAt_c
  have hL : (Globe.lessL l2 l1).length = 24 := Globe.rowsF_len _
  have heq := @eql24 (Globe.lessL l2 l1) hL
  have HL := Lib.hid hL; clear hL
  go_enter Tryd.func43, Tryd.ntmps43
  go_wp2_with (first | (go_at_call 41; refine (Less_v _ _ _ h2 (by (repeat' (first | (with_reducible assumption) | (with_reducible exact Ext.refl _) | (with_reducible refine Ext.alloc ?_ _) | (with_reducible refine Ext.drew ?_) | (with_reducible refine Ext.drewN ?_ _) | (with_reducible refine Ext.setCell ?_ ?_ _) | (with_reducible refine Ext.trans ?_ (by assumption)) | go_size))) h1 (by (repeat' (first | (with_reducible assumption) | (with_reducible exact Ext.refl _) | (with_reducible refine Ext.alloc ?_ _) | (with_reducible refine Ext.drew ?_) | (with_reducible refine Ext.drewN ?_ _) | (with_reducible refine Ext.setCell ?_ ?_ _) | (with_reducible refine Ext.trans ?_ (by assumption)) | go_size)))).mono ?_; rintro e w1 ⟨B, k, rfl, hB, hr, hv, hb⟩; have hc := hb.cellE; have hf := hb.frozenE; have hz := hb.size; have ha := alloc_keeps w1; (try simp only [World.size_alloc] at hc hf hz); (try simp only [World.size_setCell] at hc hf hz); (try simp only [World.size_drew] at hc hf hz); have hrg := (hr.ext (Ext.alloc (Ext.refl _) (.cells #[.slice (some ⟨B, 0, none⟩) 24 k] 25))).range; clear hr hv) | (refine wpList_load_g (op := ⟨some 19, Op.load 73 (Operand.tmp 18), _, _, _, _⟩) (by kernel_rfl) 73 (Operand.tmp 18) rfl _ 0 rfl _ (.array 24 3) hrg Tryd.underlying73 rfl (size24 HL.out) ?_))
  go_ret
  exact ⟨ret_bool Hr.out.symm, by (repeat' (first | (with_reducible assumption) | (with_reducible exact Ext.refl _) | (with_reducible refine Ext.alloc ?_ _) | (with_reducible refine Ext.drew ?_) | (with_reducible refine Ext.drewN ?_ _) | (with_reducible refine Ext.setCell ?_ ?_ _) | (with_reducible refine Ext.trans ?_ (by assumption)) | go_size))⟩
set_option maxHeartbeats 1000000 in
theorem Contains_n (a1 : Option Addr) (l1 : List Int) (n1 c1 : Nat) (v1 : Bool) (a2 : Option Addr) (l2 : List Int) (n2 c2 : Nat) (v2 : Bool) (w : World) (h1 : AA w a1 l1 n1 v1) (h2 : AA w a2 l2 n2 v2) (hv : (v1 && v2) = false) :
    Calls Tryd.prog 43 #[.agg #[.slice a1 n1 c1], .agg #[.slice a2 n2 c2]] w fun e w' => e = .returned (.bool false) ∧ Ext w w' := by
  have hv' : (v2 && v1) = false := by rw [Bool.and_comm]; exact hv
  clear hv
  go_enter Tryd.func43, Tryd.ntmps43
  go_wp2_with (go_at_call 41; refine (Less_n _ l2 _ _ v2 _ l1 _ _ v1 _ (h2.ext (by (repeat' (first | (with_reducible assumption) | (with_reducible exact Ext.refl _) | (with_reducible refine Ext.alloc ?_ _) | (with_reducible refine Ext.drew ?_) | (with_reducible refine Ext.drewN ?_ _) | (with_reducible refine Ext.setCell ?_ ?_ _) | (with_reducible refine Ext.trans ?_ (by assumption)) | go_size)))) (h1.ext (by (repeat' (first | (with_reducible assumption) | (with_reducible exact Ext.refl _) | (with_reducible refine Ext.alloc ?_ _) | (with_reducible refine Ext.drew ?_) | (with_reducible refine Ext.drewN ?_ _) | (with_reducible refine Ext.setCell ?_ ?_ _) | (with_reducible refine Ext.trans ?_ (by assumption)) | go_size)))) hv').mono ?_; rintro e w1 ⟨rfl, hb⟩; have hc := hb.cellE; have hf := hb.frozenE; have hz := hb.size; have ha := alloc_keeps w1; (try simp only [World.size_alloc] at hc hf hz); (try simp only [World.size_setCell] at hc hf hz); (try simp only [World.size_drew] at hc hf hz))
  go_ret
  exact ⟨rfl, by (repeat' (first | (with_reducible assumption) | (with_reducible exact Ext.refl _) | (with_reducible refine Ext.alloc ?_ _) | (with_reducible refine Ext.drew ?_) | (with_reducible refine Ext.drewN ?_ _) | (with_reducible refine Ext.setCell ?_ ?_ _) | (with_reducible refine Ext.trans ?_ (by assumption)) | go_size))⟩
theorem Contains_c {w1 w2 : World} {a1 : Option Addr} {l1 : List Int} {n1 : Nat} (c1 : Nat) {v1 : Bool} {a2 : Option Addr} {l2 : List Int} {n2 : Nat} (c2 : Nat) {v2 : Bool} (w : World) (h1 : AA w1 a1 l1 n1 v1) (e1 : Ext w1 w) (h2 : AA w2 a2 l2 n2 v2) (e2 : Ext w2 w) :
    Calls Tryd.prog 43 #[.agg #[.slice a1 n1 c1], .agg #[.slice a2 n2 c2]] w fun e w' => e = .returned (.bool (Globe.containsB l1 l2)) ∧ Ext w w' := by
  replace h1 := h1.ext e1
  replace h2 := h2.ext e2
  cases hq : (v1 && v2)
  · have hr : Globe.containsB l1 l2 = false := by rw [Globe.containsB, h1.2.2.2, h2.2.2.2, hq]; rfl
    rw [hr]
    exact Contains_n a1 l1 n1 c1 v1 a2 l2 n2 c2 v2 w h1 h2 hq
  · obtain ⟨rfl, rfl⟩ := Bool.and_eq_true_iff.1 hq
    obtain ⟨b1, o1, rfl, rfl, r1⟩ := h1.va
    obtain ⟨b2, o2, rfl, rfl, r2⟩ := h2.va
    exact Contains_v c1 c2 w r1 (Ext.refl _) r2 (Ext.refl _)

end Go.Proofs.YtnfknekbbdfdfaaDoor

/- Contracts of package globe: With, Same. -/
namespace Go.Proofs.YtnfknekbbdfdfaaDoor
open Go.RowKit

theorem boxB_one (x y : Int) : boxB x y 1 1 = Globe.vcB x y := by
  rw [Bool.eq_iff_iff, boxB_t, Globe.vcB_t]; omega
theorem union_box {l : List Int} (h : Globe.validL l = true) {x y : Nat} (hx : x < 48) (hy : y < 24) : Globe.unionL l (Globe.boxL x y 1 1) = Globe.putL l x y := by
  refine Globe.ext_has (Globe.union_valid h (Globe.box_valid _ _ _ _)) (Globe.valid_put h hx) fun x' y' hx' hy' => ?_
  rw [Globe.has_union hy', Globe.has_box hx (by omega) hx' hy', Globe.has_put (by rw [Globe.len_of_valid h]; exact hy)]
  congr 1
  rw [Bool.eq_iff_iff]
  simp only [Bool.and_eq_true, decide_eq_true_eq]
  omega

set_option maxHeartbeats 1000000 in
theorem With_v {w0 : World} {b o : Nat} (c : Nat) {l : List Int} (x y : Nat) (w : World) (h : VA w0 b o l) (hE : Ext w0 w) (hx : x < 48) (hy : y < 24) :
    Calls Tryd.prog 29 #[.agg #[.slice (some ⟨b, o, none⟩) 24 c], .agg #[.int .i64 (x : Int), .int .i64 (y : Int)]] w (RetV w (Globe.putL l x y)) := by
  replace h := h.ext hE
  clear hE
  have hu := union_box h.2 hx hy
  have Hu := Lib.hid hu; clear hu
  have hb1 : boxB x y 1 1 = true := by rw [boxB_one, Globe.vcB_t]; omega
  go_enter Tryd.func29, Tryd.ntmps29
  go_wp2_with (first | (go_at_call 19; refine (Box_v _ _ _ _ _ hb1).mono ?_; rintro e w1 ⟨B, k, rfl, hB, hr, hv, hb⟩; have hc := hb.cellE; have hf := hb.frozenE; have hz := hb.size; have ha := alloc_keeps w1; (try simp only [World.size_alloc] at hc hf hz); (try simp only [World.size_setCell] at hc hf hz); (try simp only [World.size_drew] at hc hf hz)) | (go_at_call 37; refine (Union_v _ _ _ h (by (repeat' (first | (with_reducible assumption) | (with_reducible exact Ext.refl _) | (with_reducible refine Ext.alloc ?_ _) | (with_reducible refine Ext.drew ?_) | (with_reducible refine Ext.drewN ?_ _) | (with_reducible refine Ext.setCell ?_ ?_ _) | (with_reducible refine Ext.trans ?_ (by assumption)) | go_size))) hv (by (repeat' (first | (with_reducible assumption) | (with_reducible exact Ext.refl _) | (with_reducible refine Ext.alloc ?_ _) | (with_reducible refine Ext.drew ?_) | (with_reducible refine Ext.drewN ?_ _) | (with_reducible refine Ext.setCell ?_ ?_ _) | (with_reducible refine Ext.trans ?_ (by assumption)) | go_size)))).mono ?_; rintro e w2 ⟨B2, k2, rfl, hB2, hr2, hv2, hb2⟩; have hc2 := hb2.cellE; have hf2 := hb2.frozenE; have hz2 := hb2.size; have ha2 := alloc_keeps w2; (try simp only [World.size_alloc] at hc2 hf2 hz2); (try simp only [World.size_setCell] at hc2 hf2 hz2); (try simp only [World.size_drew] at hc2 hf2 hz2)))
  refine bodyPost_ret (v := .tuple #[.agg #[.slice (some ⟨B2, 0, none⟩) 24 k2], .int .i64 0]) (by simp [results, Tryd.results29, go_sem, *]) rfl ?_
  rw [Int.toNat_natCast, Int.toNat_natCast, show (1 : Int).toNat = 1 from rfl, Hu.out] at hr2 hv2
  have hne : w.heap.size + 1 + 1 ≠ B2 := by simp at hB2; omega
  have hr3 := hr2.other (p := ⟨w.heap.size + 1 + 1, 0, none⟩) hne (.slice (some ⟨B2, 0, none⟩) 24 k2)
  exact ⟨B2, k2, rfl, by simp at hB2; omega, hr3, hr3.va hv2.2, by (repeat' (first | (with_reducible assumption) | (with_reducible exact Ext.refl _) | (with_reducible refine Ext.alloc ?_ _) | (with_reducible refine Ext.drew ?_) | (with_reducible refine Ext.drewN ?_ _) | (with_reducible refine Ext.setCell ?_ ?_ _) | (with_reducible refine Ext.trans ?_ (by assumption)) | go_size))⟩
set_option maxHeartbeats 1000000 in
theorem With_n (a : Option Addr) (l : List Int) (n c : Nat) (v : Bool) (x y : Int) (w : World) (h : AA w a l n v) (hv : (v && Globe.vcB x y) = false) :
    Calls Tryd.prog 29 #[.agg #[.slice a n c], .agg #[.int .i64 x, .int .i64 y]] w (RetErr w 50) := by
  have hb1 := boxB_one x y
  cases hq : Globe.vcB x y
  · rw [hq] at hb1
    clear hv
    go_enter Tryd.func29, Tryd.ntmps29
    go_wp2_with (go_at_call 19; refine (Box_n _ _ _ _ _ hb1).mono ?_; rintro e w1 ⟨rfl, hb⟩; have hc := hb.cellE; have hf := hb.frozenE; have hz := hb.size; have ha := alloc_keeps w1; (try simp only [World.size_alloc] at hc hf hz); (try simp only [World.size_setCell] at hc hf hz); (try simp only [World.size_drew] at hc hf hz))
    ((try simp only [Exit.inBlock, Exit.then]); refine bodyPost_ret (v := .tuple #[.agg #[.slice none 0 0], .int .i64 50]) (by simp [results, Tryd.results29, go_sem, *]) rfl ?_)
    exact ⟨rfl, by (repeat' (first | (with_reducible assumption) | (with_reducible exact Ext.refl _) | (with_reducible refine Ext.alloc ?_ _) | (with_reducible refine Ext.drew ?_) | (with_reducible refine Ext.drewN ?_ _) | (with_reducible refine Ext.setCell ?_ ?_ _) | (with_reducible refine Ext.trans ?_ (by assumption)) | go_size))⟩
  · rw [hq] at hb1
    obtain rfl : v = false := by simpa [hq] using hv
    clear hv
    go_enter Tryd.func29, Tryd.ntmps29
    go_wp2_with (first | (go_at_call 19; refine (Box_v _ _ _ _ _ hb1).mono ?_; rintro e w1 ⟨B, k, rfl, hB, hr, hv, hb⟩; have hc := hb.cellE; have hf := hb.frozenE; have hz := hb.size; have ha := alloc_keeps w1; (try simp only [World.size_alloc] at hc hf hz); (try simp only [World.size_setCell] at hc hf hz); (try simp only [World.size_drew] at hc hf hz)) | (go_at_call 37; refine (Union_n _ _ _ _ _ _ _ _ _ _ _ (h.ext (by (repeat' (first | (with_reducible assumption) | (with_reducible exact Ext.refl _) | (with_reducible refine Ext.alloc ?_ _) | (with_reducible refine Ext.drew ?_) | (with_reducible refine Ext.drewN ?_ _) | (with_reducible refine Ext.setCell ?_ ?_ _) | (with_reducible refine Ext.trans ?_ (by assumption)) | go_size)))) (hv.aa.ext (by (repeat' (first | (with_reducible assumption) | (with_reducible exact Ext.refl _) | (with_reducible refine Ext.alloc ?_ _) | (with_reducible refine Ext.drew ?_) | (with_reducible refine Ext.drewN ?_ _) | (with_reducible refine Ext.setCell ?_ ?_ _) | (with_reducible refine Ext.trans ?_ (by assumption)) | go_size)))) rfl).mono ?_; rintro e w2 ⟨rfl, hb2⟩; have hc2 := hb2.cellE; have hf2 := hb2.frozenE; have hz2 := hb2.size; have ha2 := alloc_keeps w2; (try simp only [World.size_alloc] at hc2 hf2 hz2); (try simp only [World.size_setCell] at hc2 hf2 hz2); (try simp only [World.size_drew] at hc2 hf2 hz2)))
    ((try simp only [Exit.inBlock, Exit.then]); refine bodyPost_ret (v := .tuple #[.agg #[.slice none 0 0], .int .i64 50]) (by simp [results, Tryd.results29, go_sem, *]) rfl ?_)
    exact ⟨rfl, by (repeat' (first | (with_reducible assumption) | (with_reducible exact Ext.refl _) | (with_reducible refine Ext.alloc ?_ _) | (with_reducible refine Ext.drew ?_) | (with_reducible refine Ext.drewN ?_ _) | (with_reducible refine Ext.setCell ?_ ?_ _) | (with_reducible refine Ext.trans ?_ (by assumption)) | go_size))⟩
theorem With_c {w0 : World} {a : Option Addr} {l : List Int} {n : Nat} (c : Nat) {v : Bool} (x y : Int) (w : World) (h : AA w0 a l n v) (hE : Ext w0 w) :
    Calls Tryd.prog 29 #[.agg #[.slice a n c], .agg #[.int .i64 x, .int .i64 y]] w (RetAny w (v && Globe.vcB x y) (Globe.putL l x.toNat y.toNat) 50) := by
  replace h := h.ext hE
  cases hq : (v && Globe.vcB x y)
  · exact (With_n a l n c v x y w h hq).mono fun _ _ h => RetAny.no h
  · obtain ⟨rfl, hc⟩ := Bool.and_eq_true_iff.1 hq
    obtain ⟨b1, o1, rfl, rfl, r1⟩ := h.va
    obtain ⟨h0, h1, h2, h3⟩ := Globe.vcB_t.1 hc
    have := With_v c x.toNat y.toNat w r1 (Ext.refl _) (by omega) (by omega)
    rw [Int.toNat_of_nonneg h0, Int.toNat_of_nonneg h2] at this
    exact this.mono fun _ _ h => h.any

end Go.Proofs.YtnfknekbbdfdfaaDoor

/- Contracts of package globe: the iterator over the cells of a valid area. -/
namespace Go.Proofs.YtnfknekbbdfdfaaDoor
open Go.RowKit Go.Shelf

attribute [local go_sem] Oper.semAt_some

theorem Tab.keep {n₀ : Nat} {X : Nat → Prop} {w w' : World} (h : Tab w) (hn : 1 < n₀) (hx : ¬ X 1) (hb : KeepX n₀ X w w') : Tab w' :=
  ⟨Nat.lt_of_lt_of_le h.1 hb.size, fun j hj => (hb.cell hn hx).trans (h.2 j hj)⟩

theorem cells_c (a : Option Addr) (k c : Nat) (w : World) : Calls Tryd.prog 54 #[.agg #[.slice a k c]] w fun e w' => e = .returned (.func (.func 66) #[] #[.pointer (some ⟨w.heap.size, 0, none⟩)]) ∧ w.alloc (.cells #[.slice a k c] 25) = w' := by
  go_enter Tryd.func54, Tryd.ntmps54
  go_wp2
  go_ret
  exact ⟨rfl, rfl⟩

/-- What a cell is handed on as. -/
def encCell (p : Nat × Nat) : Array Value := #[.agg #[.int .i64 (p.1 : Int), .int .i64 (p.2 : Int)]]

theorem and_pred_i64 (R : Nat) (h0 : 0 < R) (h : R < 281474976710656) : bits .and .i64 (R : Int) ((R : Int) - 1) = ((R &&& (R - 1) : Nat) : Int) := by
  rw [show ((R : Int) - 1) = ((R - 1 : Nat) : Int) by omega]
  exact (bits_nat .i64 62 (by decide) (fun n h1 h2 => by rw [IntKind.wrap_i64]; omega) R (R - 1) (by omega) (by omega)).1

set_option maxHeartbeats 2000000 in
theorem cells_stops (n : Nat) (Bn b off c n₀ : Nat) (X : Nat → Prop) (l : List Int) (w : World) (hl : Globe.validL l = true) (hB : Bn < n₀) (hBX : ¬ X Bn) (hb : b < n₀) (hbX : ¬ X b) (hg : 1 < n₀) (hgX : ¬ X 1) (hn : n₀ ≤ w.heap.size)
    (hBn : w.cell? ⟨Bn, 0, none⟩ = some (.slice (some ⟨b, off, none⟩) 24 c)) (hr : ∀ i, i < 24 → w.cell? ⟨b, off + i, none⟩ = some (.int .i64 (Globe.nth l i))) (hT : Tab w) :
    SeqStopsK Fence.wide n Tryd.prog 66 #[.pointer (some ⟨Bn, 0, none⟩)] encCell (KeepX n₀ X) (fun xs => xs = Globe.cellsTo l 24) (fun pre => pre <+: Globe.cellsTo l 24) (Globe.cellsTo l 24).length w := by
  intro ll J Jx W hW hJ hJx hY hJ0
  obtain ⟨hlen, hrow⟩ := Globe.validL_t.1 hl
  have hW' : KeepX n₀ X w W := KeepX.of_below (hW.mono hn)
  refine callsIn_of_wp Tryd.func66 rfl trivial ?_ rfl
  simp only [Tryd.ntmps66, List.size_toArray, List.length_cons, List.length_nil, Nat.reduceAdd, Nat.reduceSub, Array.replicate_succ, Array.replicate_zero, List.push_toArray, List.append_toArray, List.nil_append, List.cons_append]
  have hBW : W.cell? ⟨Bn, 0, none⟩ = some (.slice (some ⟨b, off, none⟩) 24 c) := (hW'.cell hB hBX).trans hBn
  have Hr : Hid (∀ i, i < 24 → W.cell? ⟨b, off + i, none⟩ = some (.int .i64 (Globe.nth l i))) := fun i hi => (hW'.cell hb hbX).trans (hr i hi)
  have HT := Lib.hid (hT.keep hg hgX hW')
  have HY := Lib.hid hY
  have Hrow := Lib.hid hrow
  clear hBn hr hT hY hrow hl
  gi_wp2
  gi_loopw [9] (fun p wr => ∃ y : Nat, y ≤ 24 ∧ p = .int .i64 y ∧ J (Globe.cellsTo l y) wr ∧ KeepX n₀ X W wr) (fun p _ => 24 - (intOf p).toNat)
  case atStart => exact ⟨0, by omega, rfl, hJ0, KeepX.refl _ _ _⟩
  case round =>
    obtain ⟨y, hy, rfl, hJy, hbw⟩ := hrel
    clear hJ0 hBW
    by_cases hlt : y < 24
    · have hc : wr.cell? ⟨b, off + y, none⟩ = some (.int .i64 (Globe.nth l y)) := (hbw.cell hb hbX).trans (Hr.out y hlt)
      obtain ⟨hR0, hR1⟩ := Hrow.out _ (Globe.nth_mem (l := l) (i := y) (by omega))
      have hy0 : (0 : Int) ≤ (y : Int) := by omega
      have hdy : decide ((y : Int) < 24) = true := by simp; omega
      gi_wp2
      obtain ⟨R0, hR0e⟩ : ∃ R0 : Nat, Globe.nth l y = (R0 : Int) := ⟨(Globe.nth l y).toNat, by omega⟩
      have HR0 := Lib.hid hR0e
      rw [hR0e]
      clear hR0e hc
      obtain ⟨wo, rfl⟩ : ∃ wo : World, wo = wr := ⟨_, rfl⟩
      gi_loopw [4] (fun p wr => ∃ (R : Nat) (done : List (Nat × Nat)), R < 281474976710656 ∧ p = .int .i64 R ∧ Hid (done ++ (Globe.bitsN R).map (fun x => (x, y)) = Globe.rowCells l y) ∧ J (Globe.cellsTo l y ++ done) wr ∧ KeepX n₀ X W wr) (fun p _ => (intOf p).toNat)
      case atStart => exact ⟨R0, [], by have := HR0.out; omega, rfl, by show _ = _; rw [Globe.rowCells, HR0.out]; rfl, by simpa using hJy, hbw⟩
      case round =>
        obtain ⟨R, done, hR, rfl, Hd, hJd, hbd⟩ := hrel
        by_cases hz : R = 0
        · subst hz
          gi_wp2
          go_roundw
          case rel => exact ⟨y + 1, by omega, by go_num, by rw [Globe.cellsTo_succ, ← Hd.out]; simpa [Globe.bitsN_zero] using hJd, hbd⟩
          case measure => simp [intOf]; omega
        · have hz0 : ((R : Int) != 0) = true := by simp; omega
          have hTr := HT.out.keep hg hgX hbd
          have hst := Globe.bitsN_step R hz hR
          have hd := Hd.out
          rw [hst, List.map_cons] at hd
          obtain ⟨hm1, hm2⟩ := Globe.cells_mid (by omega) hd
          obtain ⟨fn, tmps, assign, body, hyy, hRd⟩ := HY.out (Globe.cellsTo l y ++ done) (Lib.ctz 64 R, y) wr hJd hm1
          dsimp only [encCell] at hyy
          have Hd2 := Lib.hid hd; clear hd hm1 hst
          have Hm2 := Lib.hid hm2; clear hm2
          have hand := and_pred_i64 R (by omega) hR
          have hR2 := Globe.and_pred_lt R hR
          have hR3 := Globe.and_pred_less R hz
          gi_wp2_with (refine ⟨trivial, wide_depth, ?_⟩; gi_at_call 67; refine (callsIn_wide.2 (TrailingZeros_c R _ hz hR hTr)).mono ?_; rintro e w' ⟨rfl, rfl⟩)
          refine ⟨wide_depth, hRd.mono ?_⟩
          rintro e W3 (⟨rfl, hJ3, hk3⟩ | ⟨rfl, hJx3⟩)
          · gi_wp2
            go_roundw
            case rel => exact ⟨R &&& (R - 1), done ++ [(Lib.ctz 64 R, y)], hR2, rfl, by show _ = _; rw [List.append_assoc]; exact Hd2.out, by rw [← List.append_assoc]; exact hJ3, hbd.trans hk3⟩
            case measure => simp [intOf]; omega
          · gi_wp2
            refine bodyPost_ret (results_none rfl _ _ _) rfl ?_
            exact ⟨⟨_, rfl⟩, .inr ⟨_, Hm2.out, hJx3⟩⟩
    · obtain rfl : y = 24 := by omega
      gi_wp2
      go_end0
      exact ⟨⟨_, rfl⟩, by first | exact .inl hJy | exact .inl ⟨_, rfl, hJy⟩⟩

end Go.Proofs.YtnfknekbbdfdfaaDoor

/- Contracts of package globe: Count. -/
namespace Go.Proofs.YtnfknekbbdfdfaaDoor
open Go.RowKit Go.Shelf

attribute [local go_sem] Oper.semAt_some

theorem Count_no (a : Option Addr) (l : List Int) (c : Nat) (w : World) (h : IntsAt w a l) (hl : l.length ≤ 140737488355328) (hv : Globe.validL l = false) :
    Calls Tryd.prog 24 #[.agg #[.slice a l.length c]] w fun e w' => e = .returned (.int .i64 0) ∧ Ext w w' := by
  have H := Lib.hid h; clear h
  go_enter Tryd.func24, Tryd.ntmps24
  go_wp2_with (go_at_call 22; refine (Valid_c _ _ _ _ (H.out.ext (by (repeat' (first | (with_reducible assumption) | (with_reducible exact Ext.refl _) | (with_reducible refine Ext.alloc ?_ _) | (with_reducible refine Ext.drew ?_) | (with_reducible refine Ext.drewN ?_ _) | (with_reducible refine Ext.setCell ?_ ?_ _) | (with_reducible refine Ext.trans ?_ (by assumption)) | go_size)))) hl).mono ?_; rintro e w1 ⟨rfl, hb⟩; have hc := hb.cellE; have hf := hb.frozenE; have hz := hb.size; have ha := alloc_keeps w1; (try simp only [World.size_alloc] at hc hf hz); (try simp only [World.size_setCell] at hc hf hz); (try simp only [World.size_drew] at hc hf hz))
  go_ret
  exact ⟨rfl, by (repeat' (first | (with_reducible assumption) | (with_reducible exact Ext.refl _) | (with_reducible refine Ext.alloc ?_ _) | (with_reducible refine Ext.drew ?_) | (with_reducible refine Ext.drewN ?_ _) | (with_reducible refine Ext.setCell ?_ ?_ _) | (with_reducible refine Ext.trans ?_ (by assumption)) | go_size))⟩

set_option maxHeartbeats 2000000 in
theorem Count_yes (b off c : Nat) (l : List Int) (w : World) (h : ∀ i, i < l.length → w.cell? ⟨b, off + i, none⟩ = some (.int .i64 (Globe.nth l i))) (hv : Globe.validL l = true) (hT : Tab w) :
    Calls Tryd.prog 24 #[.agg #[.slice (some ⟨b, off, none⟩) l.length c]] w fun e w' => e = .returned (.int .i64 (Globe.cellsTo l 24).length) ∧ Ext w w' := by
  have hl24 := (Globe.validL_t.1 hv).1
  have H : Hid (IntsAt w (some ⟨b, off, none⟩) l) := .inr ⟨b, off, rfl, h⟩
  have H2 := Lib.hid h; clear h
  have Hl := Lib.hid hl24
  refine (callsIn_wide (n := 3)).1 ?_
  refine callsIn_of_wp_marks Tryd.func24 rfl trivial ?_ rfl
  simp only [Tryd.ntmps24, List.size_toArray, List.length_cons, List.length_nil, Nat.reduceAdd, Nat.reduceSub, Array.replicate_succ, Array.replicate_zero, List.push_toArray, List.append_toArray, List.nil_append, List.cons_append]
  refine wpIn_wide.2 ?_
  have hl : l.length ≤ 140737488355328 := by omega
  clear hl24
  go_wp2_with (first | (go_at_call 22; refine (Valid_c _ _ _ _ (H.out.ext (by (repeat' (first | (with_reducible assumption) | (with_reducible exact Ext.refl _) | (with_reducible refine Ext.alloc ?_ _) | (with_reducible refine Ext.drew ?_) | (with_reducible refine Ext.drewN ?_ _) | (with_reducible refine Ext.setCell ?_ ?_ _) | (with_reducible refine Ext.trans ?_ (by assumption)) | go_size)))) hl).mono ?_; rintro e w1 ⟨rfl, hb⟩; have hc := hb.cellE; have hf := hb.frozenE; have hz := hb.size; have ha := alloc_keeps w1; (try simp only [World.size_alloc] at hc hf hz); (try simp only [World.size_setCell] at hc hf hz); (try simp only [World.size_drew] at hc hf hz)) | (go_at_call 54; refine (cells_c _ _ _ _).mono ?_; rintro e w' ⟨rfl, rfl⟩))
  obtain ⟨W0, hW0⟩ : ∃ W0, W0 = w1.alloc (.cells #[.slice (some ⟨b, off, none⟩) l.length c] 25) := ⟨_, rfl⟩
  have hzB : w1.heap.size < W0.heap.size := by rw [hW0]; simp
  have hE1 : Ext w1 W0 := by rw [hW0]; (repeat' (first | (with_reducible assumption) | (with_reducible exact Ext.refl _) | (with_reducible refine Ext.alloc ?_ _) | (with_reducible refine Ext.drew ?_) | (with_reducible refine Ext.drewN ?_ _) | (with_reducible refine Ext.setCell ?_ ?_ _) | (with_reducible refine Ext.trans ?_ (by assumption)) | go_size))
  have hEw : Ext w w1 := by (repeat' (first | (with_reducible assumption) | (with_reducible exact Ext.refl _) | (with_reducible refine Ext.alloc ?_ _) | (with_reducible refine Ext.drew ?_) | (with_reducible refine Ext.drewN ?_ _) | (with_reducible refine Ext.setCell ?_ ?_ _) | (with_reducible refine Ext.trans ?_ (by assumption)) | go_size))
  have hE0 : Ext w W0 := hEw.trans hE1
  have c3 : w1.cell? ⟨w.heap.size + 1, 0, none⟩ = some (.int .i64 0) := hb.cell (by simp [go_sem])
  have f3 : W0.frozen? ⟨w.heap.size + 1, 0, none⟩ = false := hE1.free c3 (hb.free (v := .int .i64 0) (by simp [go_sem]) (by simp [go_sem]))
  replace c3 := hE1.cell c3
  have cB : W0.cell? ⟨w1.heap.size, 0, none⟩ = some (.slice (some ⟨b, off, none⟩) 24 c) := by rw [hW0, ← Hl.out]; simp [go_sem]
  have hr : ∀ i, i < 24 → W0.cell? ⟨b, off + i, none⟩ = some (.int .i64 (Globe.nth l i)) := fun i hi => hE0.cell (H2.out i (by rw [Hl.out]; exact hi))
  have hbs : b < w.heap.size := World.block_lt_of_cell? w _ (H2.out 0 (by rw [Hl.out]; decide))
  have hgs := hT.1
  have hT0 := hT.ext hE0
  rw [← hW0]
  clear hW0 hc hf hb
  refine wpIn_wide (n := 3).1 ?_
  refine wpIn_rangeFunc_ownF (F := Fence.wide) rfl (by omega) (gf := 66) (lb := #[.pointer (some ⟨w1.heap.size, 0, none⟩)]) rfl trivial (enters_of Tryd.func66 (by kernel_rfl) rfl)
    (cells_stops _ w1.heap.size b off c W0.heap.size (fun k => k = w.heap.size + 1) l W0 hv hzB (by omega) (by omega) (by omega) (by omega) (by omega) (Nat.le_refl _) cB hr hT0) KeepX.trans (KeepX.putObj (Nat.le_refl _)) (Below.refl _ _) (fun _ => rfl)
    (fun pre W => (W.cell? ⟨w.heap.size + 1, 0, none⟩ = some (.int .i64 (pre.length : Int)) ∧ W.frozen? ⟨w.heap.size + 1, 0, none⟩ = false) ∧ Ext w W)
    (fun _ _ _ => False)
    (OwnFrom.and (Own.from (fun s A B row hs hg hr => ⟨cell_kept hs.1 hg hr, (frozen_kept hs.1 hg hr).trans hs.2⟩) _) (ownFrom_below (Nat.le_refl _) (by omega)))
    (fun _ _ _ _ _ hs _ _ => hs) ⟨⟨c3, f3⟩, hE0⟩
    (fun p => { tmps := #[.agg #[.slice (some ⟨b, off, none⟩) l.length c], .pointer (some ⟨w.heap.size, 0, none⟩), .int .i64 0, .pointer (some ⟨w.heap.size + 1, 0, none⟩), .agg #[.slice (some ⟨b, off, none⟩) l.length c], .bool true, .agg #[.slice (some ⟨b, off, none⟩) l.length c], .func (.func 66) #[] #[.pointer (some ⟨w1.heap.size, 0, none⟩)], .agg #[.int .i64 (p.1 : Int), .int .i64 (p.2 : Int)], undef, undef, undef], defers := [] }) ?assign ?body ?done ?stop
  case assign =>
    intro ll p W K hK
    dsimp only [encCell]
    gi_wp2
    simpa using hK
  case body =>
    rintro ll pre p W ⟨⟨hA, hF⟩, hE⟩ hlen
    have hcl := Globe.cellsTo_len l 24
    gi_wp2
    refine ⟨by (repeat' (first | (with_reducible refine KeepsOthers.trans ?_ (KeepsOthers.setCell _ _ _)) | (with_reducible refine KeepsOthers.trans ?_ (KeepsOthers.drew _)) | (with_reducible exact KeepsOthers.refl _) | (refine Ext.others ?_; (repeat' (first | (with_reducible assumption) | (with_reducible exact Ext.refl _) | (with_reducible refine Ext.alloc ?_ _) | (with_reducible refine Ext.drew ?_) | (with_reducible refine Ext.drewN ?_ _) | (with_reducible refine Ext.setCell ?_ ?_ _) | (with_reducible refine Ext.trans ?_ (by assumption)) | go_size)); done))), KeepX.setCell (X := fun k => k = w.heap.size + 1) W (p := ⟨w.heap.size + 1, 0, none⟩) rfl _, ⟨?_, ?_⟩, by (repeat' (first | (with_reducible assumption) | (with_reducible exact Ext.refl _) | (with_reducible refine Ext.alloc ?_ _) | (with_reducible refine Ext.drew ?_) | (with_reducible refine Ext.drewN ?_ _) | (with_reducible refine Ext.setCell ?_ ?_ _) | (with_reducible refine Ext.trans ?_ (by assumption)) | go_size))⟩
    · simp [go_sem, hA]
    · simp [go_sem, hF]
  case done =>
    rintro D xs W hD rfl ⟨⟨hA, hF⟩, hE⟩ hK
    go_wp2
    refine ⟨by simp, .inl ⟨_, _, rfl, run_takeDeferred hK, ?_⟩⟩
    exact ⟨_, results_tmp rfl _ _ _, rfl, Ext.shut hE (by omega) hK⟩
  case stop =>
    rintro D c pre W _ _ h _
    exact h.elim

end Go.Proofs.YtnfknekbbdfdfaaDoor

/- Contracts of package globe: Cells. -/
namespace Go.Proofs.YtnfknekbbdfdfaaDoor
open Go.RowKit Go.Shelf

attribute [local go_sem] Oper.semAt_some

theorem below_b {n₀ : Nat} : ∀ {A B C : World}, KeepX n₀ (fun _ => False) A B → KeepX n₀ (fun _ => False) B C → KeepX n₀ (fun _ => False) A C := KeepX.trans
set_option maxHeartbeats 2000000 in
theorem AppendSeq_cells (Bn b off c : Nat) (l : List Int) (w : World) (hBn : w.cell? ⟨Bn, 0, none⟩ = some (.slice (some ⟨b, off, none⟩) 24 c)) (h : VA w b off l) (hT : Tab w) :
    Calls Tryd.prog 68 #[.slice none 0 0, .func (.func 66) #[] #[.pointer (some ⟨Bn, 0, none⟩)]] w fun e w' => ∃ v, e = .returned v ∧ w'.ownsRow w.heap.size 27 2 v (Globe.cellsTo l 24).length (cellVals (Globe.cellsTo l 24)) ∧ Ext w w' := by
  have hBl := World.block_lt_of_cell? w _ hBn
  have hbl := h.lt
  have hgs := hT.1
  have hcl := Globe.cellsTo_len l 24
  refine (callsIn_wide (n := 3)).1 ?_
  refine callsIn_of_wp_marks Tryd.func68 rfl trivial ?_ rfl
  simp only [Tryd.ntmps68, List.size_toArray, List.length_cons, List.length_nil, Nat.reduceAdd, Nat.reduceSub, Array.replicate_succ, Array.replicate_zero, List.push_toArray, List.append_toArray, List.nil_append, List.cons_append]
  refine wpIn_wide.2 ?_
  go_wp2_with fail
  obtain ⟨W0, hW0⟩ : ∃ W0, W0 = w.alloc (.cells #[.slice none 0 0] 36) := ⟨_, rfl⟩
  have hE0 : Ext w W0 := by rw [hW0]; (repeat' (first | (with_reducible assumption) | (with_reducible exact Ext.refl _) | (with_reducible refine Ext.alloc ?_ _) | (with_reducible refine Ext.drew ?_) | (with_reducible refine Ext.drewN ?_ _) | (with_reducible refine Ext.setCell ?_ ?_ _) | (with_reducible refine Ext.trans ?_ (by assumption)) | go_size))
  have hs0 : W0.heap.size = w.heap.size + 1 := by rw [hW0]; simp
  have hbx : Boxed W0 w.heap.size 36 (.slice none 0 0) := by rw [hW0]; exact Boxed.new _ _ _
  rw [← hW0]
  clear hW0
  obtain ⟨i0, hi, hz0, hz1, hz2⟩ := info_parts (P := Tryd.prog) (e := 27) (z := .agg #[.int .i64 0, .int .i64 0]) (size := 2) (bytes := 16) (by kernel_rfl)
  refine wpIn_wide (n := 3).1 ?_
  refine wpIn_rangeFunc_ownH (F := Fence.wide) rfl (by omega) (gf := 66) (lb := #[.pointer (some ⟨Bn, 0, none⟩)]) rfl trivial (enters_of Tryd.func66 (by kernel_rfl) rfl)
    (cells_stops _ Bn b off c w.heap.size (fun _ => False) l W0 h.2 hBl id hbl id hgs id (by omega) (hE0.cell hBn) (fun i hi => hE0.cell (h.1 i hi)) (hT.ext hE0)) KeepX.trans (KeepX.putObj (by omega)) (Below.refl _ _) (fun _ => rfl)
    (fun pre W => (∃ v, Boxed W w.heap.size 36 v ∧ W.ownsRow w.heap.size 27 2 v pre.length (cellVals pre) ∧ True) ∧ Below w.heap.size w W)
    (fun _ _ _ => False)
    (OwnFrom.and (Own.from (holdsRow_own w.heap.size w.heap.size _ _ 2 List.length cellVals (fun _ _ => True)) _) (ownFrom_below (Nat.le_refl _) (by omega)))
    (fun _ _ _ _ _ hs _ _ => hs) ⟨⟨_, hbx, World.ownsRow_nil _ _ _ _, trivial⟩, hE0⟩
    (fun p a' W => ∃ bx : Nat, a' = { tmps := #[.slice none 0 0, .func (.func 66) #[] #[.pointer (some ⟨Bn, 0, none⟩)], .pointer (some ⟨w.heap.size, 0, none⟩), undef, .slice none 0 0, .pointer (some ⟨bx, 0, none⟩), .func (.func 66) #[] #[.pointer (some ⟨Bn, 0, none⟩)], .agg #[.int .i64 (p.1 : Int), .int .i64 (p.2 : Int)], undef, undef, undef, undef, undef], defers := [] } ∧ W.cell? ⟨bx, 0, none⟩ = some (.int .i64 (p.1 : Int)) ∧ W.cell? ⟨bx, 1, none⟩ = some (.int .i64 (p.2 : Int)))
    ?hAx ?assign ?body ?done ?stop
  case hAx =>
    rintro p a' _ A B row ⟨bx, rfl, h1, h2⟩ hg hr
    exact ⟨bx, rfl, cell_kept h1 hg (fun r e => (hr r e).2), cell_kept h2 hg (fun r e => (hr r e).2)⟩
  case assign =>
    rintro ll pre p W K ⟨⟨v, hv, hrow, -⟩, hb⟩ hK
    dsimp only [encCell]
    gi_wp2
    refine hK _ _ ((KeepsOthers.alloc W _).from _) (KeepX.of_below (((Below.refl _ _).alloc hb.size _))) ⟨⟨v, hv.alloc _, hrow.alloc _, trivial⟩, hb.alloc hb.size _⟩ ⟨W.heap.size, rfl, by simp [go_sem], by simp [go_sem]⟩
  case body =>
    rintro ll pre p a' W hll hrec ⟨⟨v, hv, hrow, -⟩, hb⟩ ⟨bx, rfl, h1, h2⟩ hlen
    have hvc := hv.cell
    have hvf := hv.frozen
    have hlen' : pre.length + 1 ≤ 1152 := by omega
    gi_wp2_with (gi_at_builtin; refine wpListIn_append_own _ rfl _ _ 36 rfl w.heap.size 27 i0 (.agg #[.int .i64 0, .int .i64 0]) 2 16 Tryd.underlying36 hi hz0 hz1 hz2 rfl (by decide) _ _ _ rfl (hrow.alloc _) ⟨W.heap.size, 0, none⟩ 1 1 [.int .i64 (p.1 : Int), .int .i64 (p.2 : Int)] rfl rfl (cell_two_new _ _ _ _) (by simp [Value.oneCell']) (by unfold maxLen; omega) (by omega) (by have := hb.size; simp; omega) ?_; intro v' w3 hown' hg3 hnil3; obtain ⟨hv3, hv4, hrow4, hko, hbw⟩ := Boxed.appended hv (by decide) hrow hb.size (Nat.le_refl _) hown' hg3; obtain ⟨g', cap', rfl⟩ := ownsRow_succ hown'; have hvc3 := hv3.cell; have hvf3 := hv3.frozen; go_frame)
    refine ⟨hko.from _, KeepX.of_below hbw, ⟨_, hv4, ?_, trivial⟩, hb.trans (hbw.mono (Nat.le_refl _))⟩
    rw [cellVals_snoc, List.length_append]
    exact hrow4
  case done =>
    rintro D xs W hD rfl ⟨⟨v, hv, hrow, -⟩, hb⟩ hK
    have hvc := hv.cell
    go_wp2
    refine ⟨by simp, .inl ⟨_, _, rfl, run_takeDeferred hK, ?_⟩⟩
    exact ⟨_, results_tmp rfl _ _ _, v, rfl, ownsRow_putObj hrow _ hK rfl, Ext.shut hb (by omega) hK⟩
  case stop =>
    rintro D c pre W _ _ h _
    exact h.elim

theorem Collect_cells (Bn b off c : Nat) (l : List Int) (w : World) (hBn : w.cell? ⟨Bn, 0, none⟩ = some (.slice (some ⟨b, off, none⟩) 24 c)) (h : VA w b off l) (hT : Tab w) :
    Calls Tryd.prog 55 #[.func (.func 66) #[] #[.pointer (some ⟨Bn, 0, none⟩)]] w fun e w' => ∃ v, e = .returned v ∧ w'.ownsRow w.heap.size 27 2 v (Globe.cellsTo l 24).length (cellVals (Globe.cellsTo l 24)) ∧ Ext w w' := by
  have H := Lib.hid h; clear h
  have HT := Lib.hid hT; clear hT
  go_enter Tryd.func55, Tryd.ntmps55
  go_wp2_with (go_at_call 68; refine (AppendSeq_cells _ _ _ c l _ hBn H.out HT.out).mono ?_; rintro e w1 ⟨v, rfl, hrow, hb⟩)
  go_ret
  exact ⟨v, rfl, hrow, hb⟩

set_option maxHeartbeats 1000000 in
theorem Cells_v {w0 : World} {b o : Nat} (c : Nat) {l : List Int} (w : World) (h : VA w0 b o l) (hE : Ext w0 w) (hT : Tab w) :
    Calls Tryd.prog 27 #[.agg #[.slice (some ⟨b, o, none⟩) 24 c]] w fun e w' => ∃ a k, e = .returned (.slice a (Globe.cellsTo l 24).length k) ∧ CellsAt w' a (Globe.cellsTo l 24).length (Globe.cellsTo l 24) ∧ Ext w w' := by
  replace h := h.ext hE
  clear hE
  have HT := Lib.hid hT; clear hT
  go_enter Tryd.func27, Tryd.ntmps27
  go_wp2_with (first | (go_at_call 22; refine (Valid_e _ _ h.aa (by (repeat' (first | (with_reducible assumption) | (with_reducible exact Ext.refl _) | (with_reducible refine Ext.alloc ?_ _) | (with_reducible refine Ext.drew ?_) | (with_reducible refine Ext.drewN ?_ _) | (with_reducible refine Ext.setCell ?_ ?_ _) | (with_reducible refine Ext.trans ?_ (by assumption)) | go_size)))).mono ?_; rintro e w1 ⟨rfl, hb⟩; have hc := hb.cellE; have hf := hb.frozenE; have hz := hb.size; have ha := alloc_keeps w1; (try simp only [World.size_alloc] at hc hf hz); (try simp only [World.size_setCell] at hc hf hz); (try simp only [World.size_drew] at hc hf hz)) | (go_at_call 54; refine (cells_c _ _ _ _).mono ?_; rintro e w' ⟨rfl, rfl⟩) | (go_at_call 55; refine (Collect_cells _ _ _ c l _ (by simp [go_sem]; done) (h.ext (by (repeat' (first | (with_reducible assumption) | (with_reducible exact Ext.refl _) | (with_reducible refine Ext.alloc ?_ _) | (with_reducible refine Ext.drew ?_) | (with_reducible refine Ext.drewN ?_ _) | (with_reducible refine Ext.setCell ?_ ?_ _) | (with_reducible refine Ext.trans ?_ (by assumption)) | go_size)))) (HT.out.ext (by (repeat' (first | (with_reducible assumption) | (with_reducible exact Ext.refl _) | (with_reducible refine Ext.alloc ?_ _) | (with_reducible refine Ext.drew ?_) | (with_reducible refine Ext.drewN ?_ _) | (with_reducible refine Ext.setCell ?_ ?_ _) | (with_reducible refine Ext.trans ?_ (by assumption)) | go_size))))).mono ?_; rintro e w2 ⟨v, rfl, hrow, hb2⟩))
  go_ret
  obtain ⟨a, k, rfl, hc2⟩ := CellsAt.own rfl hrow
  exact ⟨a, k, rfl, hc2, by (repeat' (first | (with_reducible assumption) | (with_reducible exact Ext.refl _) | (with_reducible refine Ext.alloc ?_ _) | (with_reducible refine Ext.drew ?_) | (with_reducible refine Ext.drewN ?_ _) | (with_reducible refine Ext.setCell ?_ ?_ _) | (with_reducible refine Ext.trans ?_ (by assumption)) | go_size))⟩
theorem Cells_n (a : Option Addr) (l : List Int) (n c : Nat) (w : World) (h : AA w a l n false) :
    Calls Tryd.prog 27 #[.agg #[.slice a n c]] w fun e w' => e = .returned (.slice none 0 0) ∧ Ext w w' := by
  go_enter Tryd.func27, Tryd.ntmps27
  go_wp2_with (go_at_call 22; refine (Valid_e _ _ h (by (repeat' (first | (with_reducible assumption) | (with_reducible exact Ext.refl _) | (with_reducible refine Ext.alloc ?_ _) | (with_reducible refine Ext.drew ?_) | (with_reducible refine Ext.drewN ?_ _) | (with_reducible refine Ext.setCell ?_ ?_ _) | (with_reducible refine Ext.trans ?_ (by assumption)) | go_size)))).mono ?_; rintro e w1 ⟨rfl, hb⟩; have hc := hb.cellE; have hf := hb.frozenE; have hz := hb.size; have ha := alloc_keeps w1; (try simp only [World.size_alloc] at hc hf hz); (try simp only [World.size_setCell] at hc hf hz); (try simp only [World.size_drew] at hc hf hz))
  go_ret
  exact ⟨rfl, by (repeat' (first | (with_reducible assumption) | (with_reducible exact Ext.refl _) | (with_reducible refine Ext.alloc ?_ _) | (with_reducible refine Ext.drew ?_) | (with_reducible refine Ext.drewN ?_ _) | (with_reducible refine Ext.setCell ?_ ?_ _) | (with_reducible refine Ext.trans ?_ (by assumption)) | go_size))⟩
theorem Cells_c {w0 : World} {a : Option Addr} {l : List Int} {n : Nat} (c : Nat) {v : Bool} (w : World) (h : AA w0 a l n v) (hE : Ext w0 w) (hT : Tab w) :
    Calls Tryd.prog 27 #[.agg #[.slice a n c]] w fun e w' => ∃ a k, e = .returned (.slice a (Globe.cellsL l).length k) ∧ CellsAt w' a (Globe.cellsL l).length (Globe.cellsL l) ∧ Ext w w' := by
  replace h := h.ext hE
  unfold Globe.cellsL
  rw [h.2.2.2]
  cases v
  · exact (Cells_n a l n c w h).mono fun e w' ⟨he, hE⟩ => ⟨none, 0, he, CellsAt.nil _ _, hE⟩
  · obtain ⟨b, o, rfl, rfl, r⟩ := h.va
    exact Cells_v c w r (Ext.refl _) hT
/-- How many cells. -/
theorem Count_c {w0 : World} {a : Option Addr} {l : List Int} {n : Nat} (c : Nat) {v : Bool} (w : World) (h : AA w0 a l n v) (hE : Ext w0 w) (hT : Tab w) :
    Calls Tryd.prog 24 #[.agg #[.slice a n c]] w fun e w' => e = .returned (.int .i64 (Globe.countL l : Nat)) ∧ Ext w w' := by
  replace h := h.ext hE
  obtain ⟨h1, rfl, h3, h4⟩ := h
  unfold Globe.countL Globe.cellsL
  rw [h4]
  cases v
  · exact Count_no a l c w h1 h3 h4
  · obtain ⟨b, o, rfl, hr⟩ := h1.rows (Globe.len_of_valid h4)
    have := Globe.len_of_valid h4
    exact Count_yes b o c l w (fun i hi => hr i (by omega)) h4 hT
theorem Count_v {w0 : World} {b o : Nat} (c : Nat) {l : List Int} (w : World) (h : VA w0 b o l) (hE : Ext w0 w) (hT : Tab w) :
    Calls Tryd.prog 24 #[.agg #[.slice (some ⟨b, o, none⟩) 24 c]] w fun e w' => e = .returned (.int .i64 ((Globe.cellsTo l 24).length : Nat)) ∧ Ext w w' := by
  have := Count_c c w h.aa hE hT
  unfold Globe.countL Globe.cellsL at this
  rwa [h.2] at this

end Go.Proofs.YtnfknekbbdfdfaaDoor

/- Contracts of package globe: Grown. -/
namespace Go.Proofs.YtnfknekbbdfdfaaDoor
open Go.RowKit

/-- What a slice of its own, of 24 ints, owns: rows. -/
theorem rows_of_own {w : World} {base : Nat} {v : Value} {L : List Int} (hL : L.length = 24) (h : w.ownsRow base 3 1 v 24 (intVals L)) : ∃ g k, v = .slice (some ⟨g, 0, none⟩) 24 k ∧ base ≤ g ∧ RowsAt w g L := by
  rcases h.2 with ⟨_, h0⟩ | ⟨g, cap, cur, rfl, hb, _, _⟩
  · omega
  · refine ⟨g, cap, rfl, hb, hL, fun i hi => ?_, fun i hi => h.frozenAt i⟩
    rw [h.cellAt i (by omega)]
    simp [intVals, Globe.nth, show i < L.length by omega]

set_option maxHeartbeats 1000000 in
theorem Clone_v {w0 : World} {b o : Nat} (c : Nat) {l : List Int} (w : World) (h : VA w0 b o l) (hE : Ext w0 w) :
    Calls Tryd.prog 59 #[.slice (some ⟨b, o, none⟩) 24 c] w fun e w' => ∃ B k, e = .returned (.slice (some ⟨B, 0, none⟩) 24 k) ∧ w.heap.size ≤ B ∧ RowsAt w' B l ∧ Ext w w' := by
  replace h := h.ext hE
  clear hE
  obtain ⟨i0, hi, hz0, hz1, hz2⟩ := info_parts (P := Tryd.prog) (e := 3) (z := .int .i64 0) (size := 1) (bytes := 8) (by kernel_rfl)
  have hn : ∀ w, (binOp .eql 23 (.slice (some ⟨b, o, none⟩) 24 c) (.slice none 0 0)).run Tryd.prog w = .ok (.bool false) w := fun _ => by kernel_rfl
  have hx : ∀ j u, (intVals l)[j]? = some u → w.cell? ((⟨b, o, none⟩ : Addr).add j) = some u := fun j u hj => by
    have hl : j < l.length := by rw [← List.length_map (f := Value.int .i64)]; exact (List.getElem?_eq_some_iff.1 hj).1
    have e := intVals_at hl
    rw [List.getElem?_toArray, hj] at e
    cases e
    rw [Addr.add_mid]; exact h.1 j (by rw [← h.len]; exact hl)
  have Hx := Lib.hid hx; clear hx
  have hl24 := h.len
  have Hl := Lib.hid hl24; clear hl24
  go_enter Tryd.func59, Tryd.ntmps59
  go_wp2_with (at_builtin; refine wpList_append_own _ rfl _ _ 23 rfl w.heap.size 3 i0 (.int .i64 0) 1 8 Tryd.underlying23 hi hz0 hz1 hz2 rfl (by decide) _ 0 [] rfl (World.ownsRow_made w #[] 0 (Nat.le_refl _) (by unfold maxLen; omega) rfl) ⟨b, o, none⟩ 24 c (intVals l) rfl (by simp [intVals, Hl.out]) (fun j u hj => Ext.cell (by (repeat' (first | (with_reducible assumption) | (with_reducible exact Ext.refl _) | (with_reducible refine Ext.alloc ?_ _) | (with_reducible refine Ext.drew ?_) | (with_reducible refine Ext.drewN ?_ _) | (with_reducible refine Ext.setCell ?_ ?_ _) | (with_reducible refine Ext.trans ?_ (by assumption)) | go_size))) (Hx.out j u hj)) (by simp [intVals, Value.oneCell']) (by unfold maxLen; omega) (by omega) (by simp) ?_; intro v' w3 hown' hg3 hnil3; go_frame)
  have hE : Ext w w3 := ((Below.refl _ w).alloc (Nat.le_refl _) _).grown hg3 (by simp) (fun j e => by simp [Act.eval, Value.ownBlock] at e; omega)
  obtain ⟨g, k, rfl, hg, hr⟩ := rows_of_own Hl.out (by simpa using hown')
  go_ret
  exact ⟨g, k, rfl, hg, hr, hE⟩

/-- The first y rows of M, then those of L. -/
def mixTo (L M : List Int) (y : Nat) : List Int := M.take y ++ L.drop y
theorem mixTo_zero (L M : List Int) : mixTo L M 0 = L := by simp [mixTo]
theorem mixTo_all {L M : List Int} (hl : L.length = 24) (hm : M.length = 24) : mixTo L M 24 = M := by
  unfold mixTo; rw [← hm, List.take_length, hm, ← hl, List.drop_length, List.append_nil]
theorem mixTo_len {L M : List Int} (hl : L.length = 24) (hm : M.length = 24) {y : Nat} (hy : y ≤ 24) : (mixTo L M y).length = 24 := by
  unfold mixTo; rw [List.length_append, List.length_take, List.length_drop]; omega
theorem nth_mixTo {L M : List Int} (_hl : L.length = 24) (hm : M.length = 24) {y j : Nat} (hy : y ≤ 24) : Globe.nth (mixTo L M y) j = if j < y then Globe.nth M j else Globe.nth L j := by
  unfold Globe.nth mixTo
  rw [List.getElem?_append, List.length_take, hm, Nat.min_eq_left hy]
  by_cases e : j < y
  · rw [if_pos e, if_pos e, List.getElem?_take_of_lt e]
  · rw [if_neg e, if_neg e, List.getElem?_drop]; congr 2; omega
theorem mixTo_set {L M : List Int} (hl : L.length = 24) (hm : M.length = 24) {y : Nat} (hy : y < 24) : (mixTo L M y).set y (Globe.nth M y) = mixTo L M (y + 1) := by
  refine Globe.ext_nth (by rw [List.length_set, mixTo_len hl hm (by omega), mixTo_len hl hm (by omega)]) fun j hj => ?_
  rw [Globe.nth_set _ (by rw [mixTo_len hl hm (by omega)]; exact hy), nth_mixTo hl hm (by omega), nth_mixTo hl hm (by omega)]
  by_cases e : y = j
  · subst e; rw [if_pos rfl, if_pos (by omega)]
  · rw [if_neg e]
    by_cases e2 : j < y
    · rw [if_pos e2, if_pos (by omega)]
    · rw [if_neg e2, if_neg (by omega)]
theorem set_same {l : List Int} {y : Nat} (h : y < l.length) : l.set y (Globe.nth l y) = l := by
  refine Globe.ext_nth (by simp) fun j _ => ?_
  rw [Globe.nth_set _ h]; split
  · rename_i e; rw [e]
  · rfl
theorem set_set' (l : List Int) (y : Nat) (a b : Int) : (l.set y a).set y b = l.set y b := by simp

/-- In the midst of Grown: the area's own block G (its box O), the block H of the rows as they were. -/
def Gr (w : World) (O G k : Nat) (R : List Int) (wr : World) : Prop :=
  RowsAt wr G R ∧ wr.cell? ⟨O, 0, none⟩ = some (.slice (some ⟨G, 0, none⟩) 24 k) ∧ BoxAt wr (w.heap.size + 1) 0 (.slice none 0 0) ∧ Ext w wr
theorem Gr.ext {w w1 w2 : World} {O G k : Nat} {R : List Int} (h : Gr w O G k R w1) (hE : Ext w1 w2) : Gr w O G k R w2 :=
  ⟨h.1.ext hE, hE.cell h.2.1, BoxAt.ext hE h.2.2.1, h.2.2.2.trans hE⟩
theorem Gr.drewN {w w1 : World} {O G k : Nat} {R : List Int} (h : Gr w O G k R w1) (n : Nat) : Gr w O G k R (w1.drewN n) := h.ext (Ext.drewN (Ext.refl _) n)
theorem Gr.set {w w1 : World} {O G k : Nat} {R : List Int} (h : Gr w O G k R w1) (hG : w.heap.size + 1 < G) (hO : G < O) {y : Nat} (hy : y < 24) (v : Int) : Gr w O G k (R.set y v) (w1.setCell ⟨G, y, none⟩ (.int .i64 v)) :=
  ⟨h.1.set hy v, by rw [World.cell?_setCell_other _ _ _ _ (fun e => absurd (congrArg Addr.block e) (by show G ≠ O; omega))]; exact h.2.1, h.2.2.1.other (by show G ≠ _; omega) _, h.2.2.2.setCell (p := ⟨G, y, none⟩) (by show _ ≤ G; omega) _⟩

theorem Gr.set2 {w w1 : World} {O G k : Nat} {R : List Int} {y : Nat} {u : Int} (h : Gr w O G k (R.set y u) w1) (hG : w.heap.size + 1 < G) (hO : G < O) (hy : y < 24) (v : Int) : Gr w O G k (R.set y v) (w1.setCell ⟨G, y, none⟩ (.int .i64 v)) := by
  have := h.set hG hO hy v
  rwa [set_set'] at this
theorem or_eq (a b : Nat) (ha : a < 281474976710656) (hb : b < 281474976710656) : bits .or .i64 (a : Int) (b : Int) = ((a ||| b : Nat) : Int) := or_i64 a b (by omega) (by omega)

theorem turned_1 (R : Nat) (w : World) (hR : R < 281474976710656) :
    Calls Tryd.prog 51 #[.int .i64 (R : Int), .int .i64 1] w fun e w' => e = .returned (.int .i64 (Globe.rotN R 1 : Nat)) ∧ ∃ n, w' = w.drewN n := turned_c R 1 w hR (by decide)
theorem turned_47 (R : Nat) (w : World) (hR : R < 281474976710656) :
    Calls Tryd.prog 51 #[.int .i64 (R : Int), .int .i64 47] w fun e w' => e = .returned (.int .i64 (Globe.rotN R 47 : Nat)) ∧ ∃ n, w' = w.drewN n := turned_c R 47 w hR (by decide)

set_option maxHeartbeats 4000000 in
theorem Grown_y (b o c : Nat) (l : List Int) (n : Nat) (w : World) (h : VA w b o l) (hn : n ≤ 24) :
    Calls Tryd.prog 35 #[.agg #[.slice (some ⟨b, o, none⟩) 24 c], .int .i64 (n : Int)] w (RetV w (Globe.growL l n)) := by
  have hi1 : Globe.inB (n : Int) 0 24 = true := Globe.inB_t.2 (by omega)
  have hvl := h.2
  have Hvl := Lib.hid hvl; clear hvl
  go_enter Tryd.func35, Tryd.ntmps35
  go_wp2_with (first | (go_at_call 22; refine (Valid_e _ _ h.aa (by (repeat' (first | (with_reducible assumption) | (with_reducible exact Ext.refl _) | (with_reducible refine Ext.alloc ?_ _) | (with_reducible refine Ext.drew ?_) | (with_reducible refine Ext.drewN ?_ _) | (with_reducible refine Ext.setCell ?_ ?_ _) | (with_reducible refine Ext.trans ?_ (by assumption)) | go_size)))).mono ?_; rintro e w1 ⟨rfl, hb⟩; have hc := hb.cellE; have hf := hb.frozenE; have hz := hb.size; have ha := alloc_keeps w1; (try simp only [World.size_alloc] at hc hf hz); (try simp only [World.size_setCell] at hc hf hz); (try simp only [World.size_drew] at hc hf hz)) | (go_at_call 50; refine (isIn_c _ _ _ _).mono ?_; rintro e w' ⟨rfl, rfl⟩) | (go_at_call 59; refine (Clone_v _ _ h (by (repeat' (first | (with_reducible assumption) | (with_reducible exact Ext.refl _) | (with_reducible refine Ext.alloc ?_ _) | (with_reducible refine Ext.drew ?_) | (with_reducible refine Ext.drewN ?_ _) | (with_reducible refine Ext.setCell ?_ ?_ _) | (with_reducible refine Ext.trans ?_ (by assumption)) | go_size)))).mono ?_; rintro e w2 ⟨G, k, rfl, hG, hr, hb2⟩))
  obtain ⟨O, hO⟩ : ∃ O, O = w2.heap.size := ⟨_, rfl⟩
  have hGO : G < O := by have := hr.lt; omega
  have hwG : w.heap.size + 1 < G := by omega
  clear hi1
  refine wp_name (fun V => Gr w O G k (Globe.growL l 0) V) ⟨?_, ?_, ?_, ?_⟩ ?_
  · exact hr.ext (by (repeat' (first | (with_reducible assumption) | (with_reducible exact Ext.refl _) | (with_reducible refine Ext.alloc ?_ _) | (with_reducible refine Ext.drew ?_) | (with_reducible refine Ext.drewN ?_ _) | (with_reducible refine Ext.setCell ?_ ?_ _) | (with_reducible refine Ext.trans ?_ (by assumption)) | go_size)))
  · rw [hO]; simp [go_sem]
  · (repeat' (first | (with_reducible assumption) | (exact ⟨by simp [go_sem], by simp [go_sem]⟩) | (with_reducible refine BoxAt.ext (Ext.alloc (Ext.refl _) _) ?_) | (with_reducible refine BoxAt.ext (by with_reducible assumption) ?_)))
  · (repeat' (first | (with_reducible assumption) | (with_reducible exact Ext.refl _) | (with_reducible refine Ext.alloc ?_ _) | (with_reducible refine Ext.drew ?_) | (with_reducible refine Ext.drewN ?_ _) | (with_reducible refine Ext.setCell ?_ ?_ _) | (with_reducible refine Ext.trans ?_ (by assumption)) | go_size))
  intro V hF
  rw [← hO]
  clear hO hr hb2 hG
  clear hc hf hz ha hb
  go_loopw [24] (fun p wr => ∃ i : Nat, i ≤ n ∧ p = .int .i64 i ∧ Gr w O G k (Globe.growL l i) wr) (fun p _ => n - (intOf p).toNat)
  case atStart => exact ⟨0, by omega, rfl, hF⟩
  case round =>
    clear hF
    obtain ⟨i, hi, rfl, hF⟩ := hrel
    by_cases hlt : i < n
    · have hvi := Globe.growL_valid Hvl.out i
      have hva := hF.1.va hvi
      have cO := hF.2.1
      have hOl := World.block_lt_of_cell? wr _ cO
      go_wp2_with (go_at_call 59; refine (Clone_v _ _ hva (by (repeat' (first | (with_reducible assumption) | (with_reducible exact Ext.refl _) | (with_reducible refine Ext.alloc ?_ _) | (with_reducible refine Ext.drew ?_) | (with_reducible refine Ext.drewN ?_ _) | (with_reducible refine Ext.setCell ?_ ?_ _) | (with_reducible refine Ext.trans ?_ (by assumption)) | go_size)))).mono ?_; rintro e w2 ⟨H, k2, rfl, hH, hr2, hb2⟩)
      have hF2 := hF.ext hb2
      obtain ⟨wo, rfl⟩ : ∃ wo : World, wo = wr := ⟨_, rfl⟩
      have hOH : O < H := by omega
      have hM : (Globe.grow1 (Globe.growL l i)).length = 24 := Globe.rowsF_len _
      have hL := Globe.len_of_valid hvi
      have hsucc : Globe.growL l (i + 1) = Globe.grow1 (Globe.growL l i) := rfl
      have Hsucc := Lib.hid hsucc; clear hsucc
      clear hF hb2 hva cO hOl
      generalize Globe.growL l i = L at *
      have Hvi := Lib.hid hvi; clear hvi
      have HM := Lib.hid hM; clear hM
      have HL := Lib.hid hL; clear hL
      rw [← mixTo_zero L (Globe.grow1 L)] at hF2
      go_loopg [31] 24 (fun g p wr => ∃ y : Nat, y ≤ 24 ∧ g = 24 - y ∧ p = .int .i64 y ∧ Gr w O G k (mixTo L (Globe.grow1 L) y) wr ∧ RowsAt wr H L)
      case atStart => exact ⟨0, by omega, rfl, rfl, hF2, hr2⟩
      case round =>
        clear hF2 hr2
        obtain ⟨y, hy, rfl, rfl, hF2, hr2⟩ := hrel
        by_cases hly : y < 24
        · have y0 : (0 : Int) ≤ (y : Int) := by omega
          have y1 : (y : Int) < 24 := by omega
          obtain ⟨z0, hz0⟩ : ∃ z0, z0 = y - 1 := ⟨_, rfl⟩
          obtain ⟨z1, hz1⟩ : ∃ z1, z1 = min (y + 1) 23 := ⟨_, rfl⟩
          have hset : (mixTo L (Globe.grow1 L) y).set y ((Globe.rowN L y ||| Globe.orN L z0 0 : Nat) : Int) = mixTo L (Globe.grow1 L) y := by
            have e : ((Globe.rowN L y ||| Globe.orN L z0 0 : Nat) : Int) = Globe.nth (mixTo L (Globe.grow1 L) y) y := by
              rw [nth_mixTo HL.out HM.out (by omega), if_neg (by omega), Globe.rowN_cast Hvi.out, Globe.orN, Nat.or_zero]
            rw [e, set_same (by rw [mixTo_len HL.out HM.out (by omega)]; exact hly)]
          have hend : (mixTo L (Globe.grow1 L) y).set y ((Globe.rowN L y ||| Globe.orN L z0 (z1 + 1 - z0) : Nat) : Int) = mixTo L (Globe.grow1 L) (y + 1) := by
            rw [← mixTo_set HL.out HM.out hly]
            congr 1
            unfold Globe.grow1
            rw [Globe.nth_rowsF _ hly, hz0, hz1]
          rw [← hset] at hF2
          have Hend := Lib.hid hend; clear hend hset
          have hz0' : max 0 ((y : Int) - 1) = (z0 : Int) := by omega
          have Hz0 := Lib.hid hz0'; clear hz0'
          have hz01 : z0 ≤ z1 + 1 := by omega
          have hz1a : z1 ≤ y + 1 := by omega
          have hz1b : z1 ≤ 23 := by omega
          have Hz1 : Hid (z1 = y + 1 ∨ z1 = 23) := by show _ ∨ _; omega
          clear hz0 hz1
          go_upto_region 10 with fail
          go_cut [9] from 34 to 36 (fun s w' => s = .int .i64 (z0 : Int) ∧ w' = wr)
          case first =>
            go_wp2_with fail
            all_goals go_meet
            all_goals exact ⟨by rw [← Hz0.out]; first | rfl | exact congrArg _ (by omega), rfl⟩
          case rest =>
          obtain ⟨rfl, rfl⟩ := hcut
          go_wp2_with fail
          obtain ⟨wo2, rfl⟩ : ∃ wo2 : World, wo2 = wc := ⟨_, rfl⟩
          go_loopg [9] (z1 + 1 - z0) (fun g p wr => ∃ z : Nat, z0 ≤ z ∧ z ≤ z1 + 1 ∧ g = z1 + 1 - z ∧ p = .int .i64 z ∧ Gr w O G k ((mixTo L (Globe.grow1 L) y).set y ((Globe.rowN L y ||| Globe.orN L z0 (z - z0) : Nat) : Int)) wr ∧ RowsAt wr H L)
          case atStart => exact ⟨z0, by omega, by omega, rfl, rfl, by rw [Nat.sub_self]; exact hF2, hr2⟩
          case round =>
              clear hF2 hr2
              obtain ⟨z, hza, hzb, rfl, rfl, hF2, hr2⟩ := hrel
              by_cases hzz : z ≤ z1
              · have q0 : (0 : Int) ≤ (z : Int) := by omega
                have q1 : (z : Int) < 24 := by omega
                have cO := hF2.2.1
                have hR := Globe.rowN_lt Hvi.out z
                have d1 : wr.cell? ⟨H, z, none⟩ = some (.int .i64 (Globe.rowN L z : Nat)) := by rw [← Globe.rowN_cast Hvi.out]; exact hr2.cell (by omega)
                obtain ⟨X, hX⟩ : ∃ X, X = (Globe.rowN L y ||| Globe.orN L z0 (z - z0)) := ⟨_, rfl⟩
                rw [← hX] at hF2
                have hXl : X < 281474976710656 := by rw [hX]; exact Nat.or_lt_two_pow (n := 48) (Globe.rowN_lt Hvi.out y) (Globe.orN_lt Hvi.out _ _)
                have d2 : wr.cell? ⟨G, y, none⟩ = some (.int .i64 (X : Int)) := by
                  have := hF2.1.cell hly
                  rwa [Globe.nth_set _ (by rw [mixTo_len HL.out HM.out (by omega)]; exact hly), if_pos rfl] at this
                have d3 := hF2.1.free hly
                have Hsv : Hid ((X ||| Globe.wideN (Globe.rowN L z)) = (Globe.rowN L y ||| Globe.orN L z0 (z + 1 - z0))) := by
                  show _ = _
                  rw [hX, show z + 1 - z0 = (z - z0) + 1 by omega, Globe.orN, show z0 + (z - z0) = z by omega, Nat.or_assoc]
                clear hX
                have e1 : bits .or .i64 ((Globe.rowN L z : Nat) : Int) ((Globe.rotN (Globe.rowN L z) 1 : Nat) : Int) = ((Globe.rowN L z ||| Globe.rotN (Globe.rowN L z) 1 : Nat) : Int) := or_eq _ _ hR (Globe.rotN_lt _ _)
                have e2 : bits .or .i64 ((Globe.rowN L z ||| Globe.rotN (Globe.rowN L z) 1 : Nat) : Int) ((Globe.rotN (Globe.rowN L z) 47 : Nat) : Int) = ((Globe.wideN (Globe.rowN L z) : Nat) : Int) := or_eq _ _ (Nat.or_lt_two_pow (n := 48) hR (Globe.rotN_lt _ _)) (Globe.rotN_lt _ _)
                have e3 : bits .or .i64 (X : Int) ((Globe.wideN (Globe.rowN L z) : Nat) : Int) = ((X ||| Globe.wideN (Globe.rowN L z) : Nat) : Int) := or_eq _ _ hXl (Globe.wideN_lt hR)
                generalize hwz : Globe.wideN (Globe.rowN L z) = Wz at *
                generalize hr1 : Globe.rotN (Globe.rowN L z) 1 = R1 at *
                generalize hr47 : Globe.rotN (Globe.rowN L z) 47 = R47 at *
                generalize hRz : Globe.rowN L z = Rz at *
                generalize hRo : Rz ||| R1 = Ro at *
                generalize hXW : X ||| Wz = XW at *
                have Hr1 := Lib.hid hr1; clear hr1
                have Hr47 := Lib.hid hr47; clear hr47
                clear hwz hRz hRo hXW
                go_upto_region 11 with fail
                go_cut [41] from 37 to 41 (fun s w' => s = .bool true ∧ w' = wr)
                case first =>
                  go_wp2_with fail
                  all_goals go_meet
                  all_goals exact ⟨by first | rfl | (rcases Hz1.out with h | h <;> exact congrArg _ (by simp; omega)), rfl⟩
                case rest =>
                obtain ⟨rfl, rfl⟩ := hcut
                go_wp2_with fail
                -- <<grown
                refine wp_region_held_drew (S := fun w' => w'.cell? ⟨O, 0, none⟩ = some (.slice (some ⟨G, 0, none⟩) 24 k) ∧ w'.cell? ⟨H, z, none⟩ = some (.int .i64 (Rz : Int))) (by kernel_rfl) ⟨cO, d1⟩ (fun hHeld => ?_)
                (refine rg_take 0 (v := ?_) rfl (by kernel_rfl) (by kernel_rfl) (by kernel_rfl) (fun _ _ _ h => h) (by kernel_rfl) ?_ (by with_reducible assumption) ?_; rotate_left; (focus (intro w hSw; (try dsimp only at hSw); go_simp; (try with_reducible rfl))); (try simp only [Act.put, List.setIfInBounds_toArray, List.set_cons_zero, List.set_cons_succ]))
                (refine rg_take 1 (v := ?_) rfl (by kernel_rfl) (by kernel_rfl) (by kernel_rfl) (fun _ _ _ h => h) (by kernel_rfl) ?_ (by with_reducible assumption) ?_; rotate_left; (focus (intro w hSw; (try dsimp only at hSw); go_simp; (try with_reducible rfl))); (try simp only [Act.put, List.setIfInBounds_toArray, List.set_cons_zero, List.set_cons_succ]))
                (refine rg_take 2 (v := ?_) rfl (by kernel_rfl) (by kernel_rfl) (by kernel_rfl) (fun _ _ _ h => h) (by kernel_rfl) ?_ (by with_reducible assumption) ?_; rotate_left; (focus (intro w hSw; (try dsimp only at hSw); go_simp; (try with_reducible rfl))); (try simp only [Act.put, List.setIfInBounds_toArray, List.set_cons_zero, List.set_cons_succ]))
                (refine rg_take 3 (v := ?_) rfl (by kernel_rfl) (by kernel_rfl) (by kernel_rfl) (fun _ _ _ h => h) (by kernel_rfl) ?_ (by with_reducible assumption) ?_; rotate_left; (focus (intro w hSw; (try dsimp only at hSw); go_simp; (try with_reducible rfl))); (try simp only [Act.put, List.setIfInBounds_toArray, List.set_cons_zero, List.set_cons_succ]))
                (refine rg_take 5 (v := ?_) rfl (by kernel_rfl) (by kernel_rfl) (by kernel_rfl) (fun _ _ _ h => h) (by kernel_rfl) ?_ (by with_reducible assumption) ?_; rotate_left; (focus (intro w hSw; (try dsimp only at hSw); go_simp; (try with_reducible rfl))); (try simp only [Act.put, List.setIfInBounds_toArray, List.set_cons_zero, List.set_cons_succ]))
                (refine rg_take 6 (v := ?_) rfl (by kernel_rfl) (by kernel_rfl) (by kernel_rfl) (fun _ _ _ h => h) (by kernel_rfl) ?_ (by with_reducible assumption) ?_; rotate_left; (focus (intro w hSw; (try dsimp only at hSw); go_simp; (try with_reducible rfl))); (try simp only [Act.put, List.setIfInBounds_toArray, List.set_cons_zero, List.set_cons_succ]))
                (refine rg_take 7 (v := ?_) rfl (by kernel_rfl) (by kernel_rfl) (by kernel_rfl) (fun _ _ _ h => h) (by kernel_rfl) ?_ (by with_reducible assumption) ?_; rotate_left; (focus (intro w hSw; (try dsimp only at hSw); go_simp; (try with_reducible rfl))); (try simp only [Act.put, List.setIfInBounds_toArray, List.set_cons_zero, List.set_cons_succ]))
                (refine rg_take 8 (v := ?_) rfl (by kernel_rfl) (by kernel_rfl) (by kernel_rfl) (fun _ _ _ h => h) (by kernel_rfl) ?_ (by with_reducible assumption) ?_; rotate_left; (focus (intro w hSw; (try dsimp only at hSw); go_simp; (try with_reducible rfl))); (try simp only [Act.put, List.setIfInBounds_toArray, List.set_cons_zero, List.set_cons_succ]))
                (refine rg_take 9 (v := ?_) rfl (by kernel_rfl) (by kernel_rfl) (by kernel_rfl) (fun _ _ _ h => h) (by kernel_rfl) ?_ (by with_reducible assumption) ?_; rotate_left; (focus (intro w hSw; (try dsimp only at hSw); go_simp; (try with_reducible rfl))); (try simp only [Act.put, List.setIfInBounds_toArray, List.set_cons_zero, List.set_cons_succ]))
                (refine rg_take 10 (v := ?_) rfl (by kernel_rfl) (by kernel_rfl) (by kernel_rfl) (fun _ _ _ h => h) (by kernel_rfl) ?_ (by with_reducible assumption) ?_; rotate_left; (focus (intro w hSw; (try dsimp only at hSw); go_simp; (try with_reducible rfl))); (try simp only [Act.put, List.setIfInBounds_toArray, List.set_cons_zero, List.set_cons_succ]))
                (refine rg_take 11 (v := ?_) rfl (by kernel_rfl) (by kernel_rfl) (by kernel_rfl) (fun _ _ _ h => h) (by kernel_rfl) ?_ (by with_reducible assumption) ?_; rotate_left; (focus (intro w hSw; (try dsimp only at hSw); go_simp; (try with_reducible rfl))); (try simp only [Act.put, List.setIfInBounds_toArray, List.set_cons_zero, List.set_cons_succ]))
                (refine rg_take 12 (v := ?_) rfl (by kernel_rfl) (by kernel_rfl) (by kernel_rfl) (fun _ _ _ h => h) (by kernel_rfl) ?_ (by with_reducible assumption) ?_; rotate_left; (focus (intro w hSw; (try dsimp only at hSw); go_simp; (try with_reducible rfl))); (try simp only [Act.put, List.setIfInBounds_toArray, List.set_cons_zero, List.set_cons_succ]))
                (refine rg_take 15 (v := ?_) rfl (by kernel_rfl) (by kernel_rfl) (by kernel_rfl) (fun _ _ _ h => h) (by kernel_rfl) ?_ (by with_reducible assumption) ?_; rotate_left; (focus (intro w hSw; (try dsimp only at hSw); go_simp; (try with_reducible rfl))); (try simp only [Act.put, List.setIfInBounds_toArray, List.set_cons_zero, List.set_cons_succ]))
                (refine rg_take 16 (v := ?_) rfl (by kernel_rfl) (by kernel_rfl) (by kernel_rfl) (fun _ _ _ h => h) (by kernel_rfl) ?_ (by with_reducible assumption) ?_; rotate_left; (focus (intro w hSw; (try dsimp only at hSw); go_simp; (try with_reducible rfl))); (try simp only [Act.put, List.setIfInBounds_toArray, List.set_cons_zero, List.set_cons_succ]))
                (refine rg_take 17 (v := ?_) rfl (by kernel_rfl) (by kernel_rfl) (by kernel_rfl) (fun _ _ _ h => h) (by kernel_rfl) ?_ (by with_reducible assumption) ?_; rotate_left; (focus (intro w hSw; (try dsimp only at hSw); go_simp; (try with_reducible rfl))); (try simp only [Act.put, List.setIfInBounds_toArray, List.set_cons_zero, List.set_cons_succ]))
                (refine rg_take 18 (v := ?_) rfl (by kernel_rfl) (by kernel_rfl) (by kernel_rfl) (fun _ _ _ h => h) (by kernel_rfl) ?_ (by with_reducible assumption) ?_; rotate_left; (focus (intro w hSw; (try dsimp only at hSw); go_simp; (try with_reducible rfl))); (try simp only [Act.put, List.setIfInBounds_toArray, List.set_cons_zero, List.set_cons_succ]))
                refine rg_two 4 13 rfl rfl (by kernel_rfl) (by kernel_rfl) (by kernel_rfl) (fun K hK => ?_) (fun K hK => ?_)
                · (go_simp; skip; refine hK.out _ _ (hHeld) (fun hHeld => ?_); clear hK K; (try simp only [Act.put, List.setIfInBounds_toArray, List.set_cons_zero, List.set_cons_succ]))
                  refine rg_step 13 rfl (by kernel_rfl) (by kernel_rfl) (fun K hK => ?_)
                  (go_simp; (go_at_call 51; refine (turned_1 Rz _ hR).mono ?_; rintro e w' ⟨rfl, n, rfl⟩; rw [Hr1.out]); refine hK.out _ _ (hHeld) (fun hHeld => ?_); clear hK K; (try simp only [Act.put, List.setIfInBounds_toArray, List.set_cons_zero, List.set_cons_succ]))
                  (refine rg_take 14 (v := ?_) rfl (by kernel_rfl) (by kernel_rfl) (by kernel_rfl) (fun _ _ _ h => h) (by kernel_rfl) ?_ (by with_reducible assumption) ?_; rotate_left; (focus (intro w hSw; (try dsimp only at hSw); go_simp; (try with_reducible rfl))); (try simp only [Act.put, List.setIfInBounds_toArray, List.set_cons_zero, List.set_cons_succ]))
                  refine rg_step 19 rfl (by kernel_rfl) (by kernel_rfl) (fun K hK => ?_)
                  (go_simp; (go_at_call 51; refine (turned_47 Rz _ hR).mono ?_; rintro e w' ⟨rfl, n, rfl⟩; rw [Hr47.out]); refine hK.out _ _ (hHeld) (fun hHeld => ?_); clear hK K; (try simp only [Act.put, List.setIfInBounds_toArray, List.set_cons_zero, List.set_cons_succ]))
                  (refine rg_take 20 (v := ?_) rfl (by kernel_rfl) (by kernel_rfl) (by kernel_rfl) (fun _ _ _ h => h) (by kernel_rfl) ?_ (by with_reducible assumption) ?_; rotate_left; (focus (intro w hSw; (try dsimp only at hSw); go_simp; (try with_reducible rfl))); (try simp only [Act.put, List.setIfInBounds_toArray, List.set_cons_zero, List.set_cons_succ]))
                  (refine rg_take 21 (v := ?_) rfl (by kernel_rfl) (by kernel_rfl) (by kernel_rfl) (fun _ _ _ h => h) (by kernel_rfl) ?_ (by with_reducible assumption) ?_; rotate_left; (focus (intro w hSw; (try dsimp only at hSw); go_simp; (try with_reducible rfl))); (try simp only [Act.put, List.setIfInBounds_toArray, List.set_cons_zero, List.set_cons_succ]))
                  (refine rg_take 22 (v := ?_) rfl (by kernel_rfl) (by kernel_rfl) (by kernel_rfl) (fun _ _ _ h => h) (by kernel_rfl) ?_ (by with_reducible assumption) ?_; rotate_left; (focus (intro w hSw; (try dsimp only at hSw); go_simp; (try with_reducible rfl))); (try simp only [Act.put, List.setIfInBounds_toArray, List.set_cons_zero, List.set_cons_succ]))
                  refine rg_step 23 rfl (by kernel_rfl) (by kernel_rfl) (fun K hK => ?_)
                  (go_simp; skip; refine hK.out _ _ (⟨by simp [go_sem, cO], by simp [go_sem, d1]⟩) (fun hHeld => ?_); clear hK K; (try simp only [Act.put, List.setIfInBounds_toArray, List.set_cons_zero, List.set_cons_succ]))
                  refine wpAnyH_done (by kernel_rfl) ?_ _
                  go_wp2_with fail
                  go_roundg (z1 + 1 - (z + 1))
                  case rel =>
                    refine ⟨z + 1, by omega, by omega, rfl, by go_num, ?_, (hr2.drewN _).other (p := ⟨G, y, none⟩) (by show G ≠ H; omega) _⟩
                    rw [← Hsv.out]
                    exact (hF2.drewN _).set2 hwG hGO hly _
                  case measure => omega
                · (go_simp; (go_at_call 51; refine (turned_1 Rz _ hR).mono ?_; rintro e w' ⟨rfl, n, rfl⟩; rw [Hr1.out]); refine hK.out _ _ (hHeld) (fun hHeld => ?_); clear hK K; (try simp only [Act.put, List.setIfInBounds_toArray, List.set_cons_zero, List.set_cons_succ]))
                  (refine rg_take 14 (v := ?_) rfl (by kernel_rfl) (by kernel_rfl) (by kernel_rfl) (fun _ _ _ h => h) (by kernel_rfl) ?_ (by with_reducible assumption) ?_; rotate_left; (focus (intro w hSw; (try dsimp only at hSw); go_simp; (try with_reducible rfl))); (try simp only [Act.put, List.setIfInBounds_toArray, List.set_cons_zero, List.set_cons_succ]))
                  refine rg_two 4 19 rfl rfl (by kernel_rfl) (by kernel_rfl) (by kernel_rfl) (fun K hK => ?_) (fun K hK => ?_)
                  · (go_simp; skip; refine hK.out _ _ (hHeld) (fun hHeld => ?_); clear hK K; (try simp only [Act.put, List.setIfInBounds_toArray, List.set_cons_zero, List.set_cons_succ]))
                    refine rg_step 19 rfl (by kernel_rfl) (by kernel_rfl) (fun K hK => ?_)
                    (go_simp; (go_at_call 51; refine (turned_47 Rz _ hR).mono ?_; rintro e w' ⟨rfl, n, rfl⟩; rw [Hr47.out]); refine hK.out _ _ (hHeld) (fun hHeld => ?_); clear hK K; (try simp only [Act.put, List.setIfInBounds_toArray, List.set_cons_zero, List.set_cons_succ]))
                    (refine rg_take 20 (v := ?_) rfl (by kernel_rfl) (by kernel_rfl) (by kernel_rfl) (fun _ _ _ h => h) (by kernel_rfl) ?_ (by with_reducible assumption) ?_; rotate_left; (focus (intro w hSw; (try dsimp only at hSw); go_simp; (try with_reducible rfl))); (try simp only [Act.put, List.setIfInBounds_toArray, List.set_cons_zero, List.set_cons_succ]))
                    (refine rg_take 21 (v := ?_) rfl (by kernel_rfl) (by kernel_rfl) (by kernel_rfl) (fun _ _ _ h => h) (by kernel_rfl) ?_ (by with_reducible assumption) ?_; rotate_left; (focus (intro w hSw; (try dsimp only at hSw); go_simp; (try with_reducible rfl))); (try simp only [Act.put, List.setIfInBounds_toArray, List.set_cons_zero, List.set_cons_succ]))
                    (refine rg_take 22 (v := ?_) rfl (by kernel_rfl) (by kernel_rfl) (by kernel_rfl) (fun _ _ _ h => h) (by kernel_rfl) ?_ (by with_reducible assumption) ?_; rotate_left; (focus (intro w hSw; (try dsimp only at hSw); go_simp; (try with_reducible rfl))); (try simp only [Act.put, List.setIfInBounds_toArray, List.set_cons_zero, List.set_cons_succ]))
                    refine rg_step 23 rfl (by kernel_rfl) (by kernel_rfl) (fun K hK => ?_)
                    (go_simp; skip; refine hK.out _ _ (⟨by simp [go_sem, cO], by simp [go_sem, d1]⟩) (fun hHeld => ?_); clear hK K; (try simp only [Act.put, List.setIfInBounds_toArray, List.set_cons_zero, List.set_cons_succ]))
                    refine wpAnyH_done (by kernel_rfl) ?_ _
                    go_wp2_with fail
                    go_roundg (z1 + 1 - (z + 1))
                    case rel =>
                      refine ⟨z + 1, by omega, by omega, rfl, by go_num, ?_, (hr2.drewN _).other (p := ⟨G, y, none⟩) (by show G ≠ H; omega) _⟩
                      rw [← Hsv.out]
                      exact (hF2.drewN _).set2 hwG hGO hly _
                    case measure => omega
                  · (go_simp; (go_at_call 51; refine (turned_47 Rz _ hR).mono ?_; rintro e w' ⟨rfl, n, rfl⟩; rw [Hr47.out]); refine hK.out _ _ (hHeld) (fun hHeld => ?_); clear hK K; (try simp only [Act.put, List.setIfInBounds_toArray, List.set_cons_zero, List.set_cons_succ]))
                    (refine rg_take 20 (v := ?_) rfl (by kernel_rfl) (by kernel_rfl) (by kernel_rfl) (fun _ _ _ h => h) (by kernel_rfl) ?_ (by with_reducible assumption) ?_; rotate_left; (focus (intro w hSw; (try dsimp only at hSw); go_simp; (try with_reducible rfl))); (try simp only [Act.put, List.setIfInBounds_toArray, List.set_cons_zero, List.set_cons_succ]))
                    refine rg_step 4 rfl (by kernel_rfl) (by kernel_rfl) (fun K hK => ?_)
                    (go_simp; skip; refine hK.out _ _ (hHeld) (fun hHeld => ?_); clear hK K; (try simp only [Act.put, List.setIfInBounds_toArray, List.set_cons_zero, List.set_cons_succ]))
                    (refine rg_take 21 (v := ?_) rfl (by kernel_rfl) (by kernel_rfl) (by kernel_rfl) (fun _ _ _ h => h) (by kernel_rfl) ?_ (by with_reducible assumption) ?_; rotate_left; (focus (intro w hSw; (try dsimp only at hSw); go_simp; (try with_reducible rfl))); (try simp only [Act.put, List.setIfInBounds_toArray, List.set_cons_zero, List.set_cons_succ]))
                    (refine rg_take 22 (v := ?_) rfl (by kernel_rfl) (by kernel_rfl) (by kernel_rfl) (fun _ _ _ h => h) (by kernel_rfl) ?_ (by with_reducible assumption) ?_; rotate_left; (focus (intro w hSw; (try dsimp only at hSw); go_simp; (try with_reducible rfl))); (try simp only [Act.put, List.setIfInBounds_toArray, List.set_cons_zero, List.set_cons_succ]))
                    refine rg_step 23 rfl (by kernel_rfl) (by kernel_rfl) (fun K hK => ?_)
                    (go_simp; skip; refine hK.out _ _ (⟨by simp [go_sem, cO], by simp [go_sem, d1]⟩) (fun hHeld => ?_); clear hK K; (try simp only [Act.put, List.setIfInBounds_toArray, List.set_cons_zero, List.set_cons_succ]))
                    refine wpAnyH_done (by kernel_rfl) ?_ _
                    go_wp2_with fail
                    go_roundg (z1 + 1 - (z + 1))
                    case rel =>
                      refine ⟨z + 1, by omega, by omega, rfl, by go_num, ?_, (hr2.drewN _).other (p := ⟨G, y, none⟩) (by show G ≠ H; omega) _⟩
                      rw [← Hsv.out]
                      exact (hF2.drewN _).set2 hwG hGO hly _
                    case measure => omega
                -- >>
              · have hze : z = z1 + 1 := by omega
                have hza' : z1 + 1 ≤ z := by omega
                rw [hze, Hend.out] at hF2
                clear hze
                go_upto_region 11 with fail
                go_cut [41] from 37 to 41 (fun s w' => s = .bool false ∧ w' = wr)
                case first =>
                  go_wp2_with fail
                  all_goals go_meet
                  all_goals exact ⟨by first | rfl | (rcases Hz1.out with h | h <;> exact congrArg _ (by simp; omega)), rfl⟩
                case rest =>
                obtain ⟨rfl, rfl⟩ := hcut
                go_wp2_with fail
                go_roundg (24 - (y + 1))
                case rel => exact ⟨y + 1, by omega, rfl, by go_num, hF2, hr2⟩
                case measure => omega
        · obtain rfl : y = 24 := by omega
          rw [mixTo_all HL.out HM.out] at hF2
          go_wp2_with fail
          go_roundw
          case rel => exact ⟨i + 1, by omega, by go_num, by rw [Hsucc.out]; exact hF2⟩
          case measure => simp [intOf]; omega
    · obtain rfl : i = n := by omega
      obtain ⟨hr, cO, ⟨c6, f6⟩, hE⟩ := hF
      go_wp2_with fail
      have hr3 := hr.other (p := ⟨w.heap.size + 1, 0, none⟩) (by show w.heap.size + 1 ≠ G; omega) (.slice (some ⟨G, 0, none⟩) 24 k)
      refine bodyPost_ret (v := .tuple #[.agg #[.slice (some ⟨G, 0, none⟩) 24 k], .int .i64 0]) (by simp [results, Tryd.results35, go_sem, c6]) rfl ⟨G, k, rfl, by omega, hr3, hr3.va (Globe.growL_valid Hvl.out _), by (repeat' (first | (with_reducible assumption) | (with_reducible exact Ext.refl _) | (with_reducible refine Ext.alloc ?_ _) | (with_reducible refine Ext.drew ?_) | (with_reducible refine Ext.drewN ?_ _) | (with_reducible refine Ext.setCell ?_ ?_ _) | (with_reducible refine Ext.trans ?_ (by assumption)) | go_size))⟩
theorem Grown_v {w0 : World} {b o : Nat} (c : Nat) {l : List Int} (n : Int) (w : World) (h : VA w0 b o l) (hE : Ext w0 w) (hn : Globe.inB n 0 24 = true) :
    Calls Tryd.prog 35 #[.agg #[.slice (some ⟨b, o, none⟩) 24 c], .int .i64 n] w (RetV w (Globe.growL l n.toNat)) := by
  obtain ⟨h0, h1⟩ := Globe.inB_t.1 hn
  have := Grown_y b o c l n.toNat w (h.ext hE) (by omega)
  rwa [Int.toNat_of_nonneg h0] at this
set_option maxHeartbeats 1000000 in
theorem Grown_n (a : Option Addr) (l : List Int) (n c : Nat) (v : Bool) (k : Int) (w : World) (h : AA w a l n v) (hv : (v && Globe.inB k 0 24) = false) :
    Calls Tryd.prog 35 #[.agg #[.slice a n c], .int .i64 k] w (RetErr w 50) := by
  cases v
  · clear hv
    go_enter Tryd.func35, Tryd.ntmps35
    go_wp2_with (first | (go_at_call 22; refine (Valid_e _ _ h (by (repeat' (first | (with_reducible assumption) | (with_reducible exact Ext.refl _) | (with_reducible refine Ext.alloc ?_ _) | (with_reducible refine Ext.drew ?_) | (with_reducible refine Ext.drewN ?_ _) | (with_reducible refine Ext.setCell ?_ ?_ _) | (with_reducible refine Ext.trans ?_ (by assumption)) | go_size)))).mono ?_; rintro e w1 ⟨rfl, hb⟩; have hc := hb.cellE; have hf := hb.frozenE; have hz := hb.size; have ha := alloc_keeps w1; (try simp only [World.size_alloc] at hc hf hz); (try simp only [World.size_setCell] at hc hf hz); (try simp only [World.size_drew] at hc hf hz)) | (go_at_call 50; refine (isIn_c _ _ _ _).mono ?_; rintro e w' ⟨rfl, rfl⟩))
    ((try simp only [Exit.inBlock, Exit.then]); refine bodyPost_ret (v := .tuple #[.agg #[.slice none 0 0], .int .i64 50]) (by simp [results, Tryd.results35, go_sem, *]) rfl ?_)
    exact ⟨rfl, by (repeat' (first | (with_reducible assumption) | (with_reducible exact Ext.refl _) | (with_reducible refine Ext.alloc ?_ _) | (with_reducible refine Ext.drew ?_) | (with_reducible refine Ext.drewN ?_ _) | (with_reducible refine Ext.setCell ?_ ?_ _) | (with_reducible refine Ext.trans ?_ (by assumption)) | go_size))⟩
  · have hq : Globe.inB k 0 24 = false := by simpa using hv
    clear hv
    go_enter Tryd.func35, Tryd.ntmps35
    go_wp2_with (first | (go_at_call 22; refine (Valid_e _ _ h (by (repeat' (first | (with_reducible assumption) | (with_reducible exact Ext.refl _) | (with_reducible refine Ext.alloc ?_ _) | (with_reducible refine Ext.drew ?_) | (with_reducible refine Ext.drewN ?_ _) | (with_reducible refine Ext.setCell ?_ ?_ _) | (with_reducible refine Ext.trans ?_ (by assumption)) | go_size)))).mono ?_; rintro e w1 ⟨rfl, hb⟩; have hc := hb.cellE; have hf := hb.frozenE; have hz := hb.size; have ha := alloc_keeps w1; (try simp only [World.size_alloc] at hc hf hz); (try simp only [World.size_setCell] at hc hf hz); (try simp only [World.size_drew] at hc hf hz)) | (go_at_call 50; refine (isIn_c _ _ _ _).mono ?_; rintro e w' ⟨rfl, rfl⟩))
    ((try simp only [Exit.inBlock, Exit.then]); refine bodyPost_ret (v := .tuple #[.agg #[.slice none 0 0], .int .i64 50]) (by simp [results, Tryd.results35, go_sem, *]) rfl ?_)
    exact ⟨rfl, by (repeat' (first | (with_reducible assumption) | (with_reducible exact Ext.refl _) | (with_reducible refine Ext.alloc ?_ _) | (with_reducible refine Ext.drew ?_) | (with_reducible refine Ext.drewN ?_ _) | (with_reducible refine Ext.setCell ?_ ?_ _) | (with_reducible refine Ext.trans ?_ (by assumption)) | go_size))⟩
theorem Grown_c {w0 : World} {a : Option Addr} {l : List Int} {n : Nat} (c : Nat) {v : Bool} (k : Int) (w : World) (h : AA w0 a l n v) (hE : Ext w0 w) :
    Calls Tryd.prog 35 #[.agg #[.slice a n c], .int .i64 k] w (RetAny w (v && Globe.inB k 0 24) (Globe.growL l k.toNat) 50) := by
  replace h := h.ext hE
  cases hq : (v && Globe.inB k 0 24)
  · exact (Grown_n a l n c v k w h hq).mono fun _ _ h => RetAny.no h
  · obtain ⟨rfl, hk⟩ := Bool.and_eq_true_iff.1 hq
    obtain ⟨b1, o1, rfl, rfl, r1⟩ := h.va
    exact (Grown_v c k w r1 (Ext.refl _) hk).mono fun _ _ h => h.any

end Go.Proofs.YtnfknekbbdfdfaaDoor

/- The distance of two cells, and what is near an area. Plain mathematics. -/
namespace Go.Proofs.YtnfknekbbdfdfaaDoor
namespace Globe

def circ (a b : Nat) : Nat := min (max (a - b) (b - a)) (48 - max (a - b) (b - a))
def nearN (x y x' y' : Nat) : Nat := max (max (y - y') (y' - y)) (circ x x')
theorem near_le {x y x' y' n : Nat} : nearN x y x' y' ≤ n ↔ y ≤ y' + n ∧ y' ≤ y + n ∧ circ x x' ≤ n := by unfold nearN; omega
theorem circ_one {x x' : Nat} (hx : x < 48) (hx' : x' < 48) : circ x x' ≤ 1 ↔ x' = x ∨ x' = (x + 47) % 48 ∨ x' = (x + 1) % 48 := by unfold circ; omega
theorem circ_mid {x x' n : Nat} (hx : x < 48) (hx' : x' < 48) (h : circ x x' ≤ n + 1) : ∃ z, z < 48 ∧ circ x z ≤ 1 ∧ circ z x' ≤ n := by
  by_cases e : x = x'
  · subst e; exact ⟨x, hx, by unfold circ; omega, by unfold circ; omega⟩
  · by_cases c : (x' + 48 - x) % 48 ≤ 24
    · exact ⟨(x + 1) % 48, by omega, by unfold circ; omega, by unfold circ at h ⊢; omega⟩
    · exact ⟨(x + 47) % 48, by omega, by unfold circ; omega, by unfold circ at h ⊢; omega⟩
theorem circ_tri {a b c : Nat} (ha : a < 48) (hb : b < 48) (hc : c < 48) : circ a c ≤ circ a b + circ b c := by unfold circ; omega
theorem near_tri {a b c d e f : Nat} (ha : a < 48) (hb : c < 48) (hc : e < 48) : nearN a b e f ≤ nearN a b c d + nearN c d e f := by
  have := circ_tri ha hb hc
  unfold nearN; omega
theorem near_mid {x y x' y' n : Nat} (hx : x < 48) (hx' : x' < 48) (hy : y < 24) (hy' : y' < 24) (h : nearN x y x' y' ≤ n + 1) : ∃ a b, a < 48 ∧ b < 24 ∧ nearN x y a b ≤ 1 ∧ nearN a b x' y' ≤ n := by
  rw [near_le] at h
  obtain ⟨z, hz, h1, h2⟩ := circ_mid hx hx' h.2.2
  by_cases e : y < y'
  · exact ⟨z, y + 1, hz, by omega, by rw [near_le]; omega, by rw [near_le]; omega⟩
  · by_cases e2 : y' < y
    · exact ⟨z, y - 1, hz, by omega, by rw [near_le]; omega, by rw [near_le]; omega⟩
    · exact ⟨z, y, hz, by omega, by rw [near_le]; omega, by rw [near_le]; omega⟩

theorem wide_bit {R x : Nat} (h : R < 281474976710656) (hx : x < 48) : (wideN R).testBit x = true ↔ ∃ x', x' < 48 ∧ circ x x' ≤ 1 ∧ R.testBit x' = true := by
  unfold wideN
  rw [Nat.testBit_or, Nat.testBit_or, rotN_bit h (by omega) hx, rotN_bit h (by omega) hx, Bool.or_eq_true, Bool.or_eq_true, show (x + 48 - 1) % 48 = (x + 47) % 48 by omega, show (x + 48 - 47) % 48 = (x + 1) % 48 by omega]
  constructor
  · rintro ((h | h) | h)
    · exact ⟨x, hx, by unfold circ; omega, h⟩
    · exact ⟨_, by omega, (circ_one hx (by omega)).2 (.inr (.inl rfl)), h⟩
    · exact ⟨_, by omega, (circ_one hx (by omega)).2 (.inr (.inr rfl)), h⟩
  · rintro ⟨x', hx', hc, h⟩
    rcases (circ_one hx hx').1 hc with rfl | rfl | rfl
    · exact .inl (.inl h)
    · exact .inl (.inr h)
    · exact .inr h
theorem or_bit (l : List Int) (z x : Nat) : ∀ k, (orN l z k).testBit x = true ↔ ∃ i, i < k ∧ (wideN (rowN l (z + i))).testBit x = true
  | 0 => by simp [orN]
  | k + 1 => by
    rw [orN, Nat.testBit_or, Bool.or_eq_true, or_bit l z x k]
    constructor
    · rintro (⟨i, hi, h⟩ | h)
      · exact ⟨i, by omega, h⟩
      · exact ⟨k, by omega, h⟩
    · rintro ⟨i, hi, h⟩
      by_cases e : i = k
      · subst e; exact .inr h
      · exact .inl ⟨i, by omega, h⟩
theorem has_grow1 {l : List Int} (hl : validL l = true) {x y : Nat} (hx : x < 48) (hy : y < 24) :
    hasL (grow1 l) x y = true ↔ ∃ x' y', x' < 48 ∧ y' < 24 ∧ nearN x y x' y' ≤ 1 ∧ hasL l x' y' = true := by
  unfold grow1
  rw [has_rowsF _ hy, Nat.testBit_or, Bool.or_eq_true, or_bit]
  constructor
  · rintro (h | ⟨i, hi, h⟩)
    · exact ⟨x, y, hx, hy, by rw [near_le]; unfold circ; omega, h⟩
    · obtain ⟨x', hx', hc, hb⟩ := (wide_bit (rowN_lt hl _) hx).1 h
      exact ⟨x', y - 1 + i, hx', by omega, by rw [near_le]; omega, hb⟩
  · rintro ⟨x', y', hx', hy', hn, h⟩
    rw [near_le] at hn
    refine .inr ⟨y' - (y - 1), by omega, ?_⟩
    rw [show y - 1 + (y' - (y - 1)) = y' by omega]
    exact (wide_bit (rowN_lt hl _) hx).2 ⟨x', hx', hn.2.2, h⟩
theorem has_grow {l : List Int} (hl : validL l = true) {x y : Nat} (hx : x < 48) (hy : y < 24) : ∀ n,
    hasL (growL l n) x y = true ↔ ∃ x' y', x' < 48 ∧ y' < 24 ∧ nearN x y x' y' ≤ n ∧ hasL l x' y' = true
  | 0 => by
    rw [growL]
    constructor
    · exact fun h => ⟨x, y, hx, hy, by rw [near_le]; unfold circ; omega, h⟩
    · rintro ⟨x', y', hx', hy', hn, h⟩
      rw [near_le] at hn
      obtain rfl : x = x' := by have := hn.2.2; unfold circ at this; omega
      obtain rfl : y = y' := by omega
      exact h
  | n + 1 => by
    rw [growL, has_grow1 (growL_valid hl n) hx hy]
    constructor
    · rintro ⟨x1, y1, hx1, hy1, hn, h⟩
      obtain ⟨x', y', hx', hy', hn', h'⟩ := (has_grow hl hx1 hy1 n).1 h
      exact ⟨x', y', hx', hy', by have := @near_tri x y x1 y1 x' y' hx hx1 hx'; omega, h'⟩
    · rintro ⟨x', y', hx', hy', hn, h⟩
      obtain ⟨a, b, ha, hb, h1, h2⟩ := near_mid hx hx' hy hy' hn
      exact ⟨a, b, ha, hb, h1, (has_grow hl ha hb n).2 ⟨x', y', hx', hy', h2, h⟩⟩

theorem ext_iff {a b : List Int} (ha : validL a = true) (hb : validL b = true) (h : ∀ x y, x < 48 → y < 24 → (hasL a x y = true ↔ hasL b x y = true)) : a = b :=
  ext_has ha hb fun x y hx hy => by rw [Bool.eq_iff_iff]; exact h x y hx hy
theorem grow_union {a b : List Int} (ha : validL a = true) (hb : validL b = true) (n : Nat) : growL (unionL a b) n = unionL (growL a n) (growL b n) := by
  refine ext_iff (growL_valid (union_valid ha hb) n) (union_valid (growL_valid ha n) (growL_valid hb n)) fun x y hx hy => ?_
  rw [has_union hy, Bool.or_eq_true, has_grow (union_valid ha hb) hx hy, has_grow ha hx hy, has_grow hb hx hy]
  constructor
  · rintro ⟨x', y', hx', hy', hn, h⟩
    rw [has_union hy', Bool.or_eq_true] at h
    exact h.elim (fun h => .inl ⟨x', y', hx', hy', hn, h⟩) fun h => .inr ⟨x', y', hx', hy', hn, h⟩
  · rintro (⟨x', y', hx', hy', hn, h⟩ | ⟨x', y', hx', hy', hn, h⟩)
    · exact ⟨x', y', hx', hy', hn, by rw [has_union hy', h]; rfl⟩
    · exact ⟨x', y', hx', hy', hn, by rw [has_union hy', h, Bool.or_true]⟩
theorem grow_has {a : List Int} (ha : validL a = true) (n : Nat) {x y : Nat} (hx : x < 48) (hy : y < 24) (h : hasL a x y = true) : hasL (growL a n) x y = true :=
  (has_grow ha hx hy n).2 ⟨x, y, hx, hy, by rw [near_le]; unfold circ; omega, h⟩
theorem circ_shift {x x' k : Nat} (hx : x < 48) (hx' : x' < 48) (_hk : k < 48) : circ ((x + k) % 48) ((x' + k) % 48) = circ x x' := by unfold circ; omega
theorem circ_back {x x' k : Nat} (hx : x < 48) (hx' : x' < 48) (hk : k < 48) : circ ((x + 48 - k) % 48) ((x' + 48 - k) % 48) = circ x x' := by unfold circ; omega
theorem grow_shift {a : List Int} (ha : validL a = true) {k : Nat} (hk : k < 48) (n : Nat) : growL (shiftL a k) n = shiftL (growL a n) k := by
  refine ext_iff (growL_valid (shift_valid a k) n) (shift_valid _ k) fun x y hx hy => ?_
  rw [has_shift (growL_valid ha n) hk hx hy, has_grow (shift_valid a k) hx hy, has_grow ha (by omega) hy]
  constructor
  · rintro ⟨x', y', hx', hy', hn, h⟩
    rw [has_shift ha hk hx' hy'] at h
    refine ⟨_, y', by omega, hy', ?_, h⟩
    rw [near_le] at hn ⊢
    rw [circ_back hx hx' hk]; exact hn
  · rintro ⟨x', y', hx', hy', hn, h⟩
    refine ⟨(x' + k) % 48, y', by omega, hy', ?_, ?_⟩
    · rw [near_le] at hn ⊢
      refine ⟨hn.1, hn.2.1, ?_⟩
      have := hn.2.2
      rw [← circ_shift (x := (x + 48 - k) % 48) (x' := x') (k := k) (by omega) hx' hk, show ((x + 48 - k) % 48 + k) % 48 = x by omega] at this
      exact this
    · rw [has_shift ha hk (by omega) hy', show ((x' + k) % 48 + 48 - k) % 48 = x' by omega]; exact h
theorem shift_meet {a b : List Int} (ha : validL a = true) (hb : validL b = true) {k : Nat} (hk : k < 48) : shiftL (meetL a b) k = meetL (shiftL a k) (shiftL b k) := by
  refine ext_has (shift_valid _ k) (meet_valid (shift_valid a k)) fun x y hx hy => ?_
  rw [has_shift (meet_valid ha) hk hx hy, has_meet hy, has_meet hy, has_shift ha hk hx hy, has_shift hb hk hx hy]
theorem shift_union {a b : List Int} (ha : validL a = true) (hb : validL b = true) {k : Nat} (hk : k < 48) : shiftL (unionL a b) k = unionL (shiftL a k) (shiftL b k) := by
  refine ext_has (shift_valid _ k) (union_valid (shift_valid a k) (shift_valid b k)) fun x y hx hy => ?_
  rw [has_shift (union_valid ha hb) hk hx hy, has_union hy, has_union hy, has_shift ha hk hx hy, has_shift hb hk hx hy]
theorem shift_less {a b : List Int} (ha : validL a = true) (hb : validL b = true) {k : Nat} (hk : k < 48) : shiftL (lessL a b) k = lessL (shiftL a k) (shiftL b k) := by
  refine ext_has (shift_valid _ k) (less_valid (shift_valid a k)) fun x y hx hy => ?_
  rw [has_shift (less_valid ha) hk hx hy, has_less hy, has_less hy, has_shift ha hk hx hy, has_shift hb hk hx hy]
theorem shift_shift {a : List Int} (ha : validL a = true) {i k m : Nat} (hi : i < 48) (hk : k < 48) (hm : m = (i + k) % 48) : shiftL (shiftL a i) k = shiftL a m := by
  subst hm
  refine ext_has (shift_valid _ _) (shift_valid _ _) fun x y hx hy => ?_
  rw [has_shift (shift_valid a i) hk hx hy, has_shift ha hi (by omega) hy, has_shift ha (by omega) hx hy]
  congr 1
  omega

end Globe
end Go.Proofs.YtnfknekbbdfdfaaDoor

/- Contracts of package globe: Has, Near, Same. -/
namespace Go.Proofs.YtnfknekbbdfdfaaDoor
open Go.RowKit

theorem bit_and1' (R x : Nat) (h : R < 4611686018427387904) : bits .and .i64 ((R : Int) / 2 ^ x) 1 = if R.testBit x then 1 else 0 := bit_and1 R x h

set_option maxHeartbeats 1000000 in
theorem Has_y (b o c : Nat) (l : List Int) (x y : Nat) (w : World) (h : ∀ i, i < 24 → w.cell? ⟨b, o + i, none⟩ = some (.int .i64 (Globe.nth l i))) (hv : Globe.validL l = true) (hx : x < 48) (hy : y < 24) :
    Calls Tryd.prog 31 #[.agg #[.slice (some ⟨b, o, none⟩) 24 c], .agg #[.int .i64 (x : Int), .int .i64 (y : Int)]] w fun e w' => e = .returned (.bool (Globe.hasL l x y)) ∧ Ext w w' := by
  have hR := Globe.rowN_lt hv y
  have hbl := IntsAt.lt h
  have hc : w.cell? ⟨b, o + y, none⟩ = some (.int .i64 (Globe.rowN l y : Nat)) := by rw [← Globe.rowN_cast hv]; exact h y hy
  have H := Lib.hid h; clear h
  have Hv := Lib.hid hv; clear hv
  have hb1 := bit_and1 (Globe.rowN l y) x (by omega)
  rw [Globe.rowN_bit] at hb1
  generalize Globe.rowN l y = R at *
  have hvc : Globe.vcB (x : Int) (y : Int) = true := Globe.vcB_t.2 (by omega)
  have y0 : (0 : Int) ≤ (y : Int) := by omega
  have y1 : (y : Int) < 24 := by omega
  have x0 : (0 : Int) ≤ (x : Int) := by omega
  cases hbit : Globe.hasL l x y
  all_goals
    rw [hbit] at hb1
    simp only [if_true, Bool.false_eq_true, if_false] at hb1
    clear hbit
    go_enter Tryd.func31, Tryd.ntmps31
    go_wp2_with fail
    go_region_held3 (fun w' => Ext w w' ∧ w'.cell? ⟨w.heap.size, 0, none⟩ = some (.slice (some ⟨b, o, none⟩) 24 c) ∧ w'.cell? ⟨w.heap.size + 1, 0, none⟩ = some (.int .i64 (x : Int)) ∧ w'.cell? ⟨w.heap.size + 1, 1, none⟩ = some (.int .i64 (y : Int)) ∧ w'.cell? ⟨b, o + y, none⟩ = some (.int .i64 (R : Int)))
      ((first | ((repeat' (with_reducible apply And.intro)) <;> (first | (with_reducible assumption) | (simp [go_sem]; done) | ((repeat' (first | (with_reducible assumption) | (with_reducible exact Ext.refl _) | (with_reducible refine Ext.alloc ?_ _) | (with_reducible refine Ext.drew ?_) | (with_reducible refine Ext.drewN ?_ _) | (with_reducible refine Ext.setCell ?_ ?_ _) | (with_reducible refine Ext.trans ?_ (by assumption)) | go_size)); done) | (refine Ext.cell ?_ (by with_reducible assumption); (repeat' (first | (with_reducible assumption) | (with_reducible exact Ext.refl _) | (with_reducible refine Ext.alloc ?_ _) | (with_reducible refine Ext.drew ?_) | (with_reducible refine Ext.drewN ?_ _) | (with_reducible refine Ext.setCell ?_ ?_ _) | (with_reducible refine Ext.trans ?_ (by assumption)) | go_size)); done))) | (rcases (show Ext w _ ∧ _ from by with_reducible assumption) with ⟨_, _, _, _, _⟩; (repeat' (with_reducible apply And.intro)) <;> (first | (with_reducible assumption) | ((repeat' (first | (with_reducible assumption) | (with_reducible exact Ext.refl _) | (with_reducible refine Ext.alloc ?_ _) | (with_reducible refine Ext.drew ?_) | (with_reducible refine Ext.drewN ?_ _) | (with_reducible refine Ext.setCell ?_ ?_ _) | (with_reducible refine Ext.trans ?_ (by assumption)) | go_size)); done) | (refine Ext.cell ?_ (by with_reducible assumption); (repeat' (first | (with_reducible assumption) | (with_reducible exact Ext.refl _) | (with_reducible refine Ext.alloc ?_ _) | (with_reducible refine Ext.drew ?_) | (with_reducible refine Ext.drewN ?_ _) | (with_reducible refine Ext.setCell ?_ ?_ _) | (with_reducible refine Ext.trans ?_ (by assumption)) | go_size)); done)))))
      (first | (go_at_call 22; refine (Valid_y _ _ _ _ _ (fun i hi => Ext.cell (And.left (a := Ext w _) (by assumption)) (H.out i hi)) Hv.out).mono ?_; rintro e w1 ⟨rfl, hb⟩) | (go_at_call 15; refine (ValidCell_v _ _ _ (by assumption)).mono ?_; rintro e w1 ⟨rfl, hb⟩))
    go_wp2
    rcases (show Ext w _ ∧ _ from by with_reducible assumption) with ⟨hE, -⟩
    go_ret
    exact ⟨rfl, by (repeat' (first | (with_reducible assumption) | (with_reducible exact Ext.refl _) | (with_reducible refine Ext.alloc ?_ _) | (with_reducible refine Ext.drew ?_) | (with_reducible refine Ext.drewN ?_ _) | (with_reducible refine Ext.setCell ?_ ?_ _) | (with_reducible refine Ext.trans ?_ (by assumption)) | go_size))⟩
set_option maxHeartbeats 1000000 in
theorem Has_n (a : Option Addr) (l : List Int) (n c : Nat) (x y : Int) (w : World) (h : IntsAt w a l) (hn : l.length = n) (hl : n ≤ 140737488355328) (hv : (Globe.validL l && Globe.vcB x y) = false) :
    Calls Tryd.prog 31 #[.agg #[.slice a n c], .agg #[.int .i64 x, .int .i64 y]] w fun e w' => e = .returned (.bool false) ∧ Ext w w' := by
  have H := Lib.hid h; clear h
  have Hn := Lib.hid hn; clear hn
  cases hq : Globe.validL l
  · clear hv
    go_enter Tryd.func31, Tryd.ntmps31
    go_wp2_with fail
    refine wp_region_held_drew (S := fun w' => Ext w w' ∧ w'.cell? ⟨w.heap.size, 0, none⟩ = some (.slice a n c)) (by kernel_rfl) ⟨by (repeat' (first | (with_reducible assumption) | (with_reducible exact Ext.refl _) | (with_reducible refine Ext.alloc ?_ _) | (with_reducible refine Ext.drew ?_) | (with_reducible refine Ext.drewN ?_ _) | (with_reducible refine Ext.setCell ?_ ?_ _) | (with_reducible refine Ext.trans ?_ (by assumption)) | go_size)), by simp [go_sem]⟩ (fun hHeld => ?_)
    (refine rg_take 0 (v := ?_) rfl (by kernel_rfl) (by kernel_rfl) (by kernel_rfl) (fun _ _ _ h => h) (by kernel_rfl) ?_ (by with_reducible assumption) ?_; rotate_left; (focus (intro w hSw; (try dsimp only at hSw); go_simp; (try with_reducible rfl))); (try simp only [Act.put, List.setIfInBounds_toArray, List.set_cons_zero, List.set_cons_succ]))
    (refine rg_step 1 rfl (by kernel_rfl) (by kernel_rfl) (fun K hK => ?_); go_simp; (go_at_call 22; refine (Valid_v _ _ _ _ _ (H.out.ext hHeld.1) Hn.out hl hq).mono ?_; rintro e w1 ⟨rfl, hb⟩); refine hK.out _ _ (⟨hHeld.1.trans hb, hb.cell hHeld.2⟩) (fun hHeld => ?_); clear hK K; (try simp only [Act.put, List.setIfInBounds_toArray, List.set_cons_zero, List.set_cons_succ]))
    (refine rg_take 2 (v := ?_) rfl (by kernel_rfl) (by kernel_rfl) (by kernel_rfl) (fun _ _ _ h => h) (by kernel_rfl) ?_ (by with_reducible assumption) ?_; rotate_left; (focus (intro w hSw; (try dsimp only at hSw); go_simp; (try with_reducible rfl))); (try simp only [Act.put, List.setIfInBounds_toArray, List.set_cons_zero, List.set_cons_succ]))
    (refine rg_skip 3 rfl (by kernel_rfl) (by kernel_rfl) (by kernel_rfl) (fun _ _ _ h => h) (by kernel_rfl) (by with_reducible assumption) ?_; (try simp only [Act.put, List.setIfInBounds_toArray, List.set_cons_zero, List.set_cons_succ]))
    (refine rg_skip 4 rfl (by kernel_rfl) (by kernel_rfl) (by kernel_rfl) (fun _ _ _ h => h) (by kernel_rfl) (by with_reducible assumption) ?_; (try simp only [Act.put, List.setIfInBounds_toArray, List.set_cons_zero, List.set_cons_succ]))
    (refine rg_take 5 (v := ?_) rfl (by kernel_rfl) (by kernel_rfl) (by kernel_rfl) (fun _ _ _ h => h) (by kernel_rfl) ?_ (by with_reducible assumption) ?_; rotate_left; (focus (intro w hSw; (try dsimp only at hSw); go_simp; (try with_reducible rfl))); (try simp only [Act.put, List.setIfInBounds_toArray, List.set_cons_zero, List.set_cons_succ]))
    (refine rg_take 6 (v := ?_) rfl (by kernel_rfl) (by kernel_rfl) (by kernel_rfl) (fun _ _ _ h => h) (by kernel_rfl) ?_ (by with_reducible assumption) ?_; rotate_left; (focus (intro w hSw; (try dsimp only at hSw); go_simp; (try with_reducible rfl))); (try simp only [Act.put, List.setIfInBounds_toArray, List.set_cons_zero, List.set_cons_succ]))
    (refine rg_skip 7 rfl (by kernel_rfl) (by kernel_rfl) (by kernel_rfl) (fun _ _ _ h => h) (by kernel_rfl) (by with_reducible assumption) ?_; (try simp only [Act.put, List.setIfInBounds_toArray, List.set_cons_zero, List.set_cons_succ]))
    (refine rg_skip 8 rfl (by kernel_rfl) (by kernel_rfl) (by kernel_rfl) (fun _ _ _ h => h) (by kernel_rfl) (by with_reducible assumption) ?_; (try simp only [Act.put, List.setIfInBounds_toArray, List.set_cons_zero, List.set_cons_succ]))
    (refine rg_skip 9 rfl (by kernel_rfl) (by kernel_rfl) (by kernel_rfl) (fun _ _ _ h => h) (by kernel_rfl) (by with_reducible assumption) ?_; (try simp only [Act.put, List.setIfInBounds_toArray, List.set_cons_zero, List.set_cons_succ]))
    (refine rg_skip 10 rfl (by kernel_rfl) (by kernel_rfl) (by kernel_rfl) (fun _ _ _ h => h) (by kernel_rfl) (by with_reducible assumption) ?_; (try simp only [Act.put, List.setIfInBounds_toArray, List.set_cons_zero, List.set_cons_succ]))
    (refine rg_skip 11 rfl (by kernel_rfl) (by kernel_rfl) (by kernel_rfl) (fun _ _ _ h => h) (by kernel_rfl) (by with_reducible assumption) ?_; (try simp only [Act.put, List.setIfInBounds_toArray, List.set_cons_zero, List.set_cons_succ]))
    (refine rg_skip 12 rfl (by kernel_rfl) (by kernel_rfl) (by kernel_rfl) (fun _ _ _ h => h) (by kernel_rfl) (by with_reducible assumption) ?_; (try simp only [Act.put, List.setIfInBounds_toArray, List.set_cons_zero, List.set_cons_succ]))
    (refine rg_skip 13 rfl (by kernel_rfl) (by kernel_rfl) (by kernel_rfl) (fun _ _ _ h => h) (by kernel_rfl) (by with_reducible assumption) ?_; (try simp only [Act.put, List.setIfInBounds_toArray, List.set_cons_zero, List.set_cons_succ]))
    (refine rg_skip 14 rfl (by kernel_rfl) (by kernel_rfl) (by kernel_rfl) (fun _ _ _ h => h) (by kernel_rfl) (by with_reducible assumption) ?_; (try simp only [Act.put, List.setIfInBounds_toArray, List.set_cons_zero, List.set_cons_succ]))
    (refine rg_skip 15 rfl (by kernel_rfl) (by kernel_rfl) (by kernel_rfl) (fun _ _ _ h => h) (by kernel_rfl) (by with_reducible assumption) ?_; (try simp only [Act.put, List.setIfInBounds_toArray, List.set_cons_zero, List.set_cons_succ]))
    (refine rg_skip 16 rfl (by kernel_rfl) (by kernel_rfl) (by kernel_rfl) (fun _ _ _ h => h) (by kernel_rfl) (by with_reducible assumption) ?_; (try simp only [Act.put, List.setIfInBounds_toArray, List.set_cons_zero, List.set_cons_succ]))
    (refine rg_skip 17 rfl (by kernel_rfl) (by kernel_rfl) (by kernel_rfl) (fun _ _ _ h => h) (by kernel_rfl) (by with_reducible assumption) ?_; (try simp only [Act.put, List.setIfInBounds_toArray, List.set_cons_zero, List.set_cons_succ]))
    (refine rg_take 18 (v := ?_) rfl (by kernel_rfl) (by kernel_rfl) (by kernel_rfl) (fun _ _ _ h => h) (by kernel_rfl) ?_ (by with_reducible assumption) ?_; rotate_left; (focus (intro w hSw; (try dsimp only at hSw); go_simp; (try with_reducible rfl))); (try simp only [Act.put, List.setIfInBounds_toArray, List.set_cons_zero, List.set_cons_succ]))
    (refine rg_take 19 (v := ?_) rfl (by kernel_rfl) (by kernel_rfl) (by kernel_rfl) (fun _ _ _ h => h) (by kernel_rfl) ?_ (by with_reducible assumption) ?_; rotate_left; (focus (intro w hSw; (try dsimp only at hSw); go_simp; (try with_reducible rfl))); (try simp only [Act.put, List.setIfInBounds_toArray, List.set_cons_zero, List.set_cons_succ]))
    refine wpAnyH_done (by kernel_rfl) ?_ _
    go_wp2
    go_ret
    exact ⟨rfl, hHeld.1⟩
  · rw [hq] at hv
    replace hv : Globe.vcB x y = false := by simpa using hv
    obtain ⟨b, o, rfl, hr⟩ := H.out.rows (Globe.len_of_valid hq)
    go_enter Tryd.func31, Tryd.ntmps31
    go_wp2_with fail
    refine wp_region_held_drew (S := fun w' => Ext w w' ∧ w'.cell? ⟨w.heap.size, 0, none⟩ = some (.slice (some ⟨b, o, none⟩) n c) ∧ w'.cell? ⟨w.heap.size + 1, 0, none⟩ = some (.int .i64 x) ∧ w'.cell? ⟨w.heap.size + 1, 1, none⟩ = some (.int .i64 y)) (by kernel_rfl) ⟨by (repeat' (first | (with_reducible assumption) | (with_reducible exact Ext.refl _) | (with_reducible refine Ext.alloc ?_ _) | (with_reducible refine Ext.drew ?_) | (with_reducible refine Ext.drewN ?_ _) | (with_reducible refine Ext.setCell ?_ ?_ _) | (with_reducible refine Ext.trans ?_ (by assumption)) | go_size)), by simp [go_sem], by simp [go_sem], by simp [go_sem]⟩ (fun hHeld => ?_)
    (refine rg_take 0 (v := ?_) rfl (by kernel_rfl) (by kernel_rfl) (by kernel_rfl) (fun _ _ _ h => h) (by kernel_rfl) ?_ (by with_reducible assumption) ?_; rotate_left; (focus (intro w hSw; (try dsimp only at hSw); go_simp; (try with_reducible rfl))); (try simp only [Act.put, List.setIfInBounds_toArray, List.set_cons_zero, List.set_cons_succ]))
    (refine rg_step 1 rfl (by kernel_rfl) (by kernel_rfl) (fun K hK => ?_); go_simp; (go_at_call 22; refine (Valid_v _ _ _ _ _ (H.out.ext hHeld.1) Hn.out hl hq).mono ?_; rintro e w1 ⟨rfl, hb⟩); refine hK.out _ _ (⟨hHeld.1.trans hb, hb.cell hHeld.2.1, hb.cell hHeld.2.2.1, hb.cell hHeld.2.2.2⟩) (fun hHeld => ?_); clear hK K; (try simp only [Act.put, List.setIfInBounds_toArray, List.set_cons_zero, List.set_cons_succ]))
    (refine rg_take 2 (v := ?_) rfl (by kernel_rfl) (by kernel_rfl) (by kernel_rfl) (fun _ _ _ h => h) (by kernel_rfl) ?_ (by with_reducible assumption) ?_; rotate_left; (focus (intro w hSw; (try dsimp only at hSw); go_simp; (try with_reducible rfl))); (try simp only [Act.put, List.setIfInBounds_toArray, List.set_cons_zero, List.set_cons_succ]))
    (refine rg_take 3 (v := ?_) rfl (by kernel_rfl) (by kernel_rfl) (by kernel_rfl) (fun _ _ _ h => h) (by kernel_rfl) ?_ (by with_reducible assumption) ?_; rotate_left; (focus (intro w hSw; (try dsimp only at hSw); go_simp; (try with_reducible rfl))); (try simp only [Act.put, List.setIfInBounds_toArray, List.set_cons_zero, List.set_cons_succ]))
    (refine rg_step 4 rfl (by kernel_rfl) (by kernel_rfl) (fun K hK => ?_); go_simp; (go_at_call 15; refine (ValidCell_v _ _ _ hv).mono ?_; rintro e w1 ⟨rfl, hb⟩); refine hK.out _ _ (⟨hHeld.1.trans hb, hb.cell hHeld.2.1, hb.cell hHeld.2.2.1, hb.cell hHeld.2.2.2⟩) (fun hHeld => ?_); clear hK K; (try simp only [Act.put, List.setIfInBounds_toArray, List.set_cons_zero, List.set_cons_succ]))
    (refine rg_take 5 (v := ?_) rfl (by kernel_rfl) (by kernel_rfl) (by kernel_rfl) (fun _ _ _ h => h) (by kernel_rfl) ?_ (by with_reducible assumption) ?_; rotate_left; (focus (intro w hSw; (try dsimp only at hSw); go_simp; (try with_reducible rfl))); (try simp only [Act.put, List.setIfInBounds_toArray, List.set_cons_zero, List.set_cons_succ]))
    (refine rg_take 6 (v := ?_) rfl (by kernel_rfl) (by kernel_rfl) (by kernel_rfl) (fun _ _ _ h => h) (by kernel_rfl) ?_ (by with_reducible assumption) ?_; rotate_left; (focus (intro w hSw; (try dsimp only at hSw); go_simp; (try with_reducible rfl))); (try simp only [Act.put, List.setIfInBounds_toArray, List.set_cons_zero, List.set_cons_succ]))
    (refine rg_skip 7 rfl (by kernel_rfl) (by kernel_rfl) (by kernel_rfl) (fun _ _ _ h => h) (by kernel_rfl) (by with_reducible assumption) ?_; (try simp only [Act.put, List.setIfInBounds_toArray, List.set_cons_zero, List.set_cons_succ]))
    (refine rg_skip 8 rfl (by kernel_rfl) (by kernel_rfl) (by kernel_rfl) (fun _ _ _ h => h) (by kernel_rfl) (by with_reducible assumption) ?_; (try simp only [Act.put, List.setIfInBounds_toArray, List.set_cons_zero, List.set_cons_succ]))
    (refine rg_skip 9 rfl (by kernel_rfl) (by kernel_rfl) (by kernel_rfl) (fun _ _ _ h => h) (by kernel_rfl) (by with_reducible assumption) ?_; (try simp only [Act.put, List.setIfInBounds_toArray, List.set_cons_zero, List.set_cons_succ]))
    (refine rg_skip 10 rfl (by kernel_rfl) (by kernel_rfl) (by kernel_rfl) (fun _ _ _ h => h) (by kernel_rfl) (by with_reducible assumption) ?_; (try simp only [Act.put, List.setIfInBounds_toArray, List.set_cons_zero, List.set_cons_succ]))
    (refine rg_skip 11 rfl (by kernel_rfl) (by kernel_rfl) (by kernel_rfl) (fun _ _ _ h => h) (by kernel_rfl) (by with_reducible assumption) ?_; (try simp only [Act.put, List.setIfInBounds_toArray, List.set_cons_zero, List.set_cons_succ]))
    (refine rg_skip 12 rfl (by kernel_rfl) (by kernel_rfl) (by kernel_rfl) (fun _ _ _ h => h) (by kernel_rfl) (by with_reducible assumption) ?_; (try simp only [Act.put, List.setIfInBounds_toArray, List.set_cons_zero, List.set_cons_succ]))
    (refine rg_skip 13 rfl (by kernel_rfl) (by kernel_rfl) (by kernel_rfl) (fun _ _ _ h => h) (by kernel_rfl) (by with_reducible assumption) ?_; (try simp only [Act.put, List.setIfInBounds_toArray, List.set_cons_zero, List.set_cons_succ]))
    (refine rg_skip 14 rfl (by kernel_rfl) (by kernel_rfl) (by kernel_rfl) (fun _ _ _ h => h) (by kernel_rfl) (by with_reducible assumption) ?_; (try simp only [Act.put, List.setIfInBounds_toArray, List.set_cons_zero, List.set_cons_succ]))
    (refine rg_skip 15 rfl (by kernel_rfl) (by kernel_rfl) (by kernel_rfl) (fun _ _ _ h => h) (by kernel_rfl) (by with_reducible assumption) ?_; (try simp only [Act.put, List.setIfInBounds_toArray, List.set_cons_zero, List.set_cons_succ]))
    (refine rg_skip 16 rfl (by kernel_rfl) (by kernel_rfl) (by kernel_rfl) (fun _ _ _ h => h) (by kernel_rfl) (by with_reducible assumption) ?_; (try simp only [Act.put, List.setIfInBounds_toArray, List.set_cons_zero, List.set_cons_succ]))
    (refine rg_skip 17 rfl (by kernel_rfl) (by kernel_rfl) (by kernel_rfl) (fun _ _ _ h => h) (by kernel_rfl) (by with_reducible assumption) ?_; (try simp only [Act.put, List.setIfInBounds_toArray, List.set_cons_zero, List.set_cons_succ]))
    (refine rg_take 18 (v := ?_) rfl (by kernel_rfl) (by kernel_rfl) (by kernel_rfl) (fun _ _ _ h => h) (by kernel_rfl) ?_ (by with_reducible assumption) ?_; rotate_left; (focus (intro w hSw; (try dsimp only at hSw); go_simp; (try with_reducible rfl))); (try simp only [Act.put, List.setIfInBounds_toArray, List.set_cons_zero, List.set_cons_succ]))
    (refine rg_take 19 (v := ?_) rfl (by kernel_rfl) (by kernel_rfl) (by kernel_rfl) (fun _ _ _ h => h) (by kernel_rfl) ?_ (by with_reducible assumption) ?_; rotate_left; (focus (intro w hSw; (try dsimp only at hSw); go_simp; (try with_reducible rfl))); (try simp only [Act.put, List.setIfInBounds_toArray, List.set_cons_zero, List.set_cons_succ]))
    refine wpAnyH_done (by kernel_rfl) ?_ _
    go_wp2
    go_ret
    exact ⟨rfl, hHeld.1⟩
/-- Whether any list of rows is a valid area with the cell. -/
def hasB (l : List Int) (x y : Int) : Bool := Globe.validL l && Globe.vcB x y && Globe.hasL l x.toNat y.toNat
theorem hasB_nat {l : List Int} (h : Globe.validL l = true) {x y : Nat} (hx : x < 48) (hy : y < 24) : hasB l x y = Globe.hasL l x y := by
  unfold hasB; rw [h, Globe.vcB_t.2 (by omega)]; simp
theorem Has_c (a : Option Addr) (l : List Int) (n c : Nat) (x y : Int) (w : World) (h : IntsAt w a l) (hn : l.length = n) (hl : n ≤ 140737488355328) :
    Calls Tryd.prog 31 #[.agg #[.slice a n c], .agg #[.int .i64 x, .int .i64 y]] w fun e w' => e = .returned (.bool (hasB l x y)) ∧ Ext w w' := by
  cases hq : Globe.validL l && Globe.vcB x y
  · have := Has_n a l n c x y w h hn hl hq
    unfold hasB; rw [hq]; exact this
  · obtain ⟨hv, hc⟩ := Bool.and_eq_true_iff.1 hq
    obtain ⟨h0, h1, h2, h3⟩ := Globe.vcB_t.1 hc
    have hn2 := Globe.len_of_valid hv
    obtain ⟨b, o, rfl, hr⟩ := h.rows hn2
    obtain rfl : n = 24 := by omega
    have := Has_y b o c l x.toNat y.toNat w hr hv (by omega) (by omega)
    rw [Int.toNat_of_nonneg h0, Int.toNat_of_nonneg h2] at this
    unfold hasB; rw [hq]; exact this

end Go.Proofs.YtnfknekbbdfdfaaDoor

/- Contracts of package globe: Near. -/
namespace Go.Proofs.YtnfknekbbdfdfaaDoor
open Go.RowKit

/-- The distance of two cells; -1: not both are valid. -/
def nearI (x y x' y' : Int) : Int := if Globe.vcB x y && Globe.vcB x' y' then (Globe.nearN x.toNat y.toNat x'.toNat y'.toNat : Nat) else -1
theorem nearI_no {x y x' y' : Int} (h : (Globe.vcB x y && Globe.vcB x' y') = false) : nearI x y x' y' = -1 := by rw [nearI, h]; rfl
/-- The distance of two columns, around. -/
def circI (x x' : Int) : Int := min (max (x - x') (x' - x)) (48 - max (x - x') (x' - x))
def rowI (y y' : Int) : Int := max (y - y') (y' - y)
theorem rowI_or (y y' : Int) : (rowI y y' = y - y' ∧ y' ≤ y) ∨ (rowI y y' = y' - y ∧ y ≤ y') := by unfold rowI; omega
theorem circI_or (x x' : Int) : (circI x x' = rowI x x' ∧ rowI x x' ≤ 24) ∨ (circI x x' = 48 - rowI x x' ∧ 24 ≤ rowI x x') := by unfold circI rowI; omega
theorem circ_cast {a b : Nat} (ha : a < 48) (hb : b < 48) : ((Globe.circ a b : Nat) : Int) = circI a b := by
  rcases circI_or a b with h | h <;> rcases rowI_or a b with h' | h' <;> (unfold Globe.circ; omega)
theorem nearI_yes {x y x' y' : Int} (h : Globe.vcB x y = true) (h' : Globe.vcB x' y' = true) : nearI x y x' y' = max (rowI y y') (circI x x') := by
  rw [nearI, h, h']
  rw [Globe.vcB_t] at h h'
  simp only [Bool.and_self, if_true]
  have e := @circ_cast x.toNat x'.toNat (by omega) (by omega)
  rw [Int.toNat_of_nonneg (by omega), Int.toNat_of_nonneg (by omega)] at e
  rw [← e]
  unfold Globe.nearN
  generalize Globe.circ x.toNat x'.toNat = k
  rcases rowI_or y y' with h2 | h2 <;> rw [h2.1] <;> omega
set_option maxHeartbeats 2000000 in
theorem Near_c (x y x' y' : Int) (w : World) :
    Calls Tryd.prog 17 #[.agg #[.int .i64 x, .int .i64 y], .agg #[.int .i64 x', .int .i64 y']] w fun e w' => e = .returned (.int .i64 (nearI x y x' y')) ∧ Ext w w' := by
  cases h1 : Globe.vcB x y
  · have hr := nearI_no (x := x) (y := y) (x' := x') (y' := y') (by rw [h1]; rfl)
    have Hr := Lib.hid hr; clear hr
    go_enter Tryd.func17, Tryd.ntmps17
    go_wp2_with (go_at_call 15; refine (ValidCell_c _ _ _).mono ?_; rintro e w1 ⟨rfl, hb⟩; have hc := hb.cellE; have hf := hb.frozenE; have hz := hb.size; have ha := alloc_keeps w1; (try simp only [World.size_alloc] at hc hf hz); (try simp only [World.size_setCell] at hc hf hz); (try simp only [World.size_drew] at hc hf hz))
    go_ret
    exact ⟨ret_int Hr.out.symm, by (repeat' (first | (with_reducible assumption) | (with_reducible exact Ext.refl _) | (with_reducible refine Ext.alloc ?_ _) | (with_reducible refine Ext.drew ?_) | (with_reducible refine Ext.drewN ?_ _) | (with_reducible refine Ext.setCell ?_ ?_ _) | (with_reducible refine Ext.trans ?_ (by assumption)) | go_size))⟩
  · cases h2 : Globe.vcB x' y'
    · have hr := nearI_no (x := x) (y := y) (x' := x') (y' := y') (by rw [h1, h2]; rfl)
      have Hr := Lib.hid hr; clear hr
      go_enter Tryd.func17, Tryd.ntmps17
      go_wp2_with (go_at_call 15; refine (ValidCell_c _ _ _).mono ?_; rintro e w1 ⟨rfl, hb⟩; have hc := hb.cellE; have hf := hb.frozenE; have hz := hb.size; have ha := alloc_keeps w1; (try simp only [World.size_alloc] at hc hf hz); (try simp only [World.size_setCell] at hc hf hz); (try simp only [World.size_drew] at hc hf hz))
      go_ret
      exact ⟨ret_int Hr.out.symm, by (repeat' (first | (with_reducible assumption) | (with_reducible exact Ext.refl _) | (with_reducible refine Ext.alloc ?_ _) | (with_reducible refine Ext.drew ?_) | (with_reducible refine Ext.drewN ?_ _) | (with_reducible refine Ext.setCell ?_ ?_ _) | (with_reducible refine Ext.trans ?_ (by assumption)) | go_size))⟩
    · have hr := nearI_yes h1 h2
      have Hr := Lib.hid hr; clear hr
      obtain ⟨a1, a2, a3, a4⟩ := Globe.vcB_t.1 h1
      obtain ⟨b1, b2, b3, b4⟩ := Globe.vcB_t.1 h2
      go_enter Tryd.func17, Tryd.ntmps17
      go_wp2_with (go_at_call 15; refine (ValidCell_c _ _ _).mono ?_; rintro e w1 ⟨rfl, hb⟩; have hc := hb.cellE; have hf := hb.frozenE; have hz := hb.size; have ha := alloc_keeps w1; (try simp only [World.size_alloc] at hc hf hz); (try simp only [World.size_setCell] at hc hf hz); (try simp only [World.size_drew] at hc hf hz))
      all_goals
        go_ret
        refine ⟨ret_int ?_, by (repeat' (first | (with_reducible assumption) | (with_reducible exact Ext.refl _) | (with_reducible refine Ext.alloc ?_ _) | (with_reducible refine Ext.drew ?_) | (with_reducible refine Ext.drewN ?_ _) | (with_reducible refine Ext.setCell ?_ ?_ _) | (with_reducible refine Ext.trans ?_ (by assumption)) | go_size))⟩
        rw [Hr.out]
        clear hc hf hz ha hb
        rcases circI_or x x' with ⟨h, h'⟩ | ⟨h, h'⟩ <;> rw [h] <;> (unfold rowI at *; omega)

end Go.Proofs.YtnfknekbbdfdfaaDoor

/- The chapter's examples: 'sane' of chapter 5 returns true. -/
namespace Go.Proofs.YtnfknekbbdfdfaaDoor
open Go.RowKit
open Globe

def exB : List Int := boxL 46 3 4 2
def exS : List Int := shiftL exB 3
def exO : List Int := putL zeroL 0 0
def exW : List Int := growL exO 2
def exU : List Int := unionL exB exS
def exM : List Int := meetL exB exS
def exD : List Int := lessL exB exS
theorem exB_v : validL exB = true := box_valid _ _ _ _
theorem exS_v : validL exS = true := shift_valid _ _
theorem exO_v : validL exO = true := valid_put valid_zero (by decide)
theorem exW_v : validL exW = true := growL_valid exO_v 2
theorem exU_v : validL exU = true := union_valid exB_v exS_v
theorem exM_v : validL exM = true := meet_valid exB_v
theorem exD_v : validL exD = true := less_valid exB_v
theorem exB_3 : nth exB 3 = 211106232532995 := by decide +kernel
theorem exB_4 : nth exB 4 = 211106232532995 := by decide +kernel
theorem exB_5 : nth exB 5 = 0 := by decide +kernel
theorem exS_3 : nth exS 3 = 30 := by decide +kernel
theorem exS_4 : nth exS 4 = 30 := by decide +kernel
theorem exB_n : (cellsTo exB 24).length = 8 := by decide +kernel
theorem exW_n : (cellsTo exW 24).length = 15 := by decide +kernel
theorem exU_n : (cellsTo exU 24).length = 14 := by decide +kernel
theorem exM_n : (cellsTo exM 24).length = 2 := by decide +kernel
theorem exD_n : (cellsTo exD 24).length = 6 := by decide +kernel
theorem ex_c1 : containsB exU exB = true := by decide +kernel
theorem ex_c2 : containsB exB exU = false := by decide +kernel
theorem ex_h1 : hasL exB 0 4 = true := by decide +kernel
theorem ex_h2 : hasL exB 2 4 = false := by decide +kernel
theorem ex_ne : decide (exB = exS) = false := by decide +kernel
theorem ex_n1 : nearI 46 3 1 5 = 3 := by decide +kernel
theorem ex_n2 : nearI 0 0 24 0 = 24 := by decide +kernel
theorem ex_n3 : nearI 48 0 0 0 = -1 := by decide +kernel

set_option maxRecDepth 100000 in
set_option maxHeartbeats 8000000 in
theorem sane_c (w : World) (hT : Tab w) : Calls Tryd.prog 10 #[] w fun e w' => e = .returned (.bool true) ∧ Ext w w' := by
  have HT := Lib.hid hT; clear hT
  go_enter Tryd.func10, Tryd.ntmps10
  go_wp2_with fail
  refine calls_name (fun V => Ext w V) (by (repeat' (first | (with_reducible assumption) | (with_reducible exact Ext.refl _) | (with_reducible refine Ext.alloc ?_ _) | (with_reducible refine Ext.drew ?_) | (with_reducible refine Ext.drewN ?_ _) | (with_reducible refine Ext.setCell ?_ ?_ _) | (with_reducible refine Ext.trans ?_ (by assumption)) | go_size))) ?_
  intro V hE
  refine (Box_v 46 3 4 2 _ (by decide)).mono ?_
  rintro e w1 ⟨B1, k1, rfl, hB, hr, hv, hb⟩
  have hc := hb.cellE; have hf := hb.frozenE; have hz := hb.size; have ha := alloc_keeps w1; (try simp only [World.size_alloc] at hc hf hz); (try simp only [World.size_setCell] at hc hf hz); (try simp only [World.size_drew] at hc hf hz)
  replace hv : VA w1 B1 0 exB := hv
  replace hr : RowsAt w1 B1 exB := hr
  have q3 := hr.cell (i := 3) (by omega)
  rw [exB_3] at q3
  have q4 := hr.cell (i := 4) (by omega)
  rw [exB_4] at q4
  have q5 := hr.cell (i := 5) (by omega)
  rw [exB_5] at q5
  clear hr hB
  go_wp2_with fail
  obtain ⟨O1, hO⟩ : ∃ O, O = w1.heap.size := ⟨_, rfl⟩
  rw [← hO]
  refine calls_name (fun V => Ext w V ∧ VA V B1 0 exB ∧ V.cell? ⟨B1, 3, none⟩ = some (.int .i64 211106232532995) ∧ V.cell? ⟨B1, 4, none⟩ = some (.int .i64 211106232532995) ∧ V.cell? ⟨B1, 5, none⟩ = some (.int .i64 0) ∧ V.cell? ⟨O1, 0, none⟩ = some (.slice (some ⟨B1, 0, none⟩) 24 k1)) ⟨hE.trans (by first | exact hb | exact Ext.alloc hb _ | exact Ext.alloc (Ext.alloc hb _) _), hv.ext (by first | exact Ext.refl _ | exact Ext.alloc (Ext.refl _) _ | exact Ext.alloc (Ext.alloc (Ext.refl _) _) _), Ext.cell (by first | exact Ext.refl _ | exact Ext.alloc (Ext.refl _) _ | exact Ext.alloc (Ext.alloc (Ext.refl _) _) _) q3, Ext.cell (by first | exact Ext.refl _ | exact Ext.alloc (Ext.refl _) _ | exact Ext.alloc (Ext.alloc (Ext.refl _) _) _) q4, Ext.cell (by first | exact Ext.refl _ | exact Ext.alloc (Ext.refl _) _ | exact Ext.alloc (Ext.alloc (Ext.refl _) _) _) q5, by rw [hO]; simp [go_sem]⟩ ?_
  clear hE  hb hc hf hz ha hO hv q3 q4 q5
  rintro V ⟨hE, vB, b3, b4, b5, cO1⟩
  have lvB := vB.lt
  have lcO1 := World.block_lt_of_cell? V _ cO1
  refine (Shifted_v k1 3 _ vB (Ext.refl _)).mono ?_
  rintro e w1 ⟨B2, k2, rfl, hB, hr, hv, hb⟩
  have hc := hb.cellE; have hf := hb.frozenE; have hz := hb.size; have ha := alloc_keeps w1; (try simp only [World.size_alloc] at hc hf hz); (try simp only [World.size_setCell] at hc hf hz); (try simp only [World.size_drew] at hc hf hz)
  replace hv : VA w1 B2 0 exS := hv
  replace hr : RowsAt w1 B2 exS := hr
  have q3 := hr.cell (i := 3) (by omega)
  rw [exS_3] at q3
  have q4 := hr.cell (i := 4) (by omega)
  rw [exS_4] at q4
  clear hr hB
  go_wp2_with fail
  obtain ⟨O2, hO⟩ : ∃ O, O = w1.heap.size := ⟨_, rfl⟩
  rw [← hO]
  refine calls_name (fun V => Ext w V ∧ VA V B1 0 exB ∧ V.cell? ⟨B1, 3, none⟩ = some (.int .i64 211106232532995) ∧ V.cell? ⟨B1, 4, none⟩ = some (.int .i64 211106232532995) ∧ V.cell? ⟨B1, 5, none⟩ = some (.int .i64 0) ∧ V.cell? ⟨O1, 0, none⟩ = some (.slice (some ⟨B1, 0, none⟩) 24 k1) ∧ VA V B2 0 exS ∧ V.cell? ⟨B2, 3, none⟩ = some (.int .i64 30) ∧ V.cell? ⟨B2, 4, none⟩ = some (.int .i64 30) ∧ V.cell? ⟨O2, 0, none⟩ = some (.slice (some ⟨B2, 0, none⟩) 24 k2)) ⟨hE.trans (by first | exact hb | exact Ext.alloc hb _ | exact Ext.alloc (Ext.alloc hb _) _), vB.ext (by first | exact hb | exact Ext.alloc hb _ | exact Ext.alloc (Ext.alloc hb _) _), Ext.cell (by first | exact hb | exact Ext.alloc hb _ | exact Ext.alloc (Ext.alloc hb _) _) b3, Ext.cell (by first | exact hb | exact Ext.alloc hb _ | exact Ext.alloc (Ext.alloc hb _) _) b4, Ext.cell (by first | exact hb | exact Ext.alloc hb _ | exact Ext.alloc (Ext.alloc hb _) _) b5, Ext.cell (by first | exact hb | exact Ext.alloc hb _ | exact Ext.alloc (Ext.alloc hb _) _) cO1, hv.ext (by first | exact Ext.refl _ | exact Ext.alloc (Ext.refl _) _ | exact Ext.alloc (Ext.alloc (Ext.refl _) _) _), Ext.cell (by first | exact Ext.refl _ | exact Ext.alloc (Ext.refl _) _ | exact Ext.alloc (Ext.alloc (Ext.refl _) _) _) q3, Ext.cell (by first | exact Ext.refl _ | exact Ext.alloc (Ext.refl _) _ | exact Ext.alloc (Ext.alloc (Ext.refl _) _) _) q4, by rw [hO]; simp [go_sem]⟩ ?_
  clear hE vB b3 b4 b5 cO1 lvB lcO1 hb hc hf hz ha hO hv q3 q4
  rintro V ⟨hE, vB, b3, b4, b5, cO1, vS, s3, s4, cO2⟩
  have lvB := vB.lt
  have lcO1 := World.block_lt_of_cell? V _ cO1
  have lvS := vS.lt
  have lcO2 := World.block_lt_of_cell? V _ cO2
  refine (Empty_c _).mono ?_
  rintro e w1 ⟨B3, rfl, hB, hr, hb⟩
  have hc := hb.cellE; have hf := hb.frozenE; have hz := hb.size; have ha := alloc_keeps w1; (try simp only [World.size_alloc] at hc hf hz); (try simp only [World.size_setCell] at hc hf hz); (try simp only [World.size_drew] at hc hf hz)
  have hv := hr.va valid_zero
  clear hr hB
  go_wp2_with fail
  refine calls_name (fun V => Ext w V ∧ VA V B1 0 exB ∧ V.cell? ⟨B1, 3, none⟩ = some (.int .i64 211106232532995) ∧ V.cell? ⟨B1, 4, none⟩ = some (.int .i64 211106232532995) ∧ V.cell? ⟨B1, 5, none⟩ = some (.int .i64 0) ∧ V.cell? ⟨O1, 0, none⟩ = some (.slice (some ⟨B1, 0, none⟩) 24 k1) ∧ VA V B2 0 exS ∧ V.cell? ⟨B2, 3, none⟩ = some (.int .i64 30) ∧ V.cell? ⟨B2, 4, none⟩ = some (.int .i64 30) ∧ V.cell? ⟨O2, 0, none⟩ = some (.slice (some ⟨B2, 0, none⟩) 24 k2) ∧ VA V B3 0 zeroL) ⟨hE.trans (by first | exact hb | exact Ext.alloc hb _ | exact Ext.alloc (Ext.alloc hb _) _), vB.ext (by first | exact hb | exact Ext.alloc hb _ | exact Ext.alloc (Ext.alloc hb _) _), Ext.cell (by first | exact hb | exact Ext.alloc hb _ | exact Ext.alloc (Ext.alloc hb _) _) b3, Ext.cell (by first | exact hb | exact Ext.alloc hb _ | exact Ext.alloc (Ext.alloc hb _) _) b4, Ext.cell (by first | exact hb | exact Ext.alloc hb _ | exact Ext.alloc (Ext.alloc hb _) _) b5, Ext.cell (by first | exact hb | exact Ext.alloc hb _ | exact Ext.alloc (Ext.alloc hb _) _) cO1, vS.ext (by first | exact hb | exact Ext.alloc hb _ | exact Ext.alloc (Ext.alloc hb _) _), Ext.cell (by first | exact hb | exact Ext.alloc hb _ | exact Ext.alloc (Ext.alloc hb _) _) s3, Ext.cell (by first | exact hb | exact Ext.alloc hb _ | exact Ext.alloc (Ext.alloc hb _) _) s4, Ext.cell (by first | exact hb | exact Ext.alloc hb _ | exact Ext.alloc (Ext.alloc hb _) _) cO2, hv.ext (by first | exact Ext.refl _ | exact Ext.alloc (Ext.refl _) _ | exact Ext.alloc (Ext.alloc (Ext.refl _) _) _)⟩ ?_
  clear hE vB b3 b4 b5 cO1 vS s3 s4 cO2 lvB lcO1 lvS lcO2 hb hc hf hz ha hv
  rintro V ⟨hE, vB, b3, b4, b5, cO1, vS, s3, s4, cO2, vZ⟩
  have lvB := vB.lt
  have lcO1 := World.block_lt_of_cell? V _ cO1
  have lvS := vS.lt
  have lcO2 := World.block_lt_of_cell? V _ cO2
  have lvZ := vZ.lt
  refine (With_v 24 0 0 _ vZ (Ext.refl _) (by decide) (by decide)).mono ?_
  rintro e w1 ⟨B4, k4, rfl, hB, hr, hv, hb⟩
  have hc := hb.cellE; have hf := hb.frozenE; have hz := hb.size; have ha := alloc_keeps w1; (try simp only [World.size_alloc] at hc hf hz); (try simp only [World.size_setCell] at hc hf hz); (try simp only [World.size_drew] at hc hf hz)
  replace hv : VA w1 B4 0 exO := hv
  clear hr hB
  go_wp2_with fail
  obtain ⟨O3, hO⟩ : ∃ O, O = w1.heap.size := ⟨_, rfl⟩
  rw [← hO]
  refine calls_name (fun V => Ext w V ∧ VA V B1 0 exB ∧ V.cell? ⟨B1, 3, none⟩ = some (.int .i64 211106232532995) ∧ V.cell? ⟨B1, 4, none⟩ = some (.int .i64 211106232532995) ∧ V.cell? ⟨B1, 5, none⟩ = some (.int .i64 0) ∧ V.cell? ⟨O1, 0, none⟩ = some (.slice (some ⟨B1, 0, none⟩) 24 k1) ∧ VA V B2 0 exS ∧ V.cell? ⟨B2, 3, none⟩ = some (.int .i64 30) ∧ V.cell? ⟨B2, 4, none⟩ = some (.int .i64 30) ∧ V.cell? ⟨O2, 0, none⟩ = some (.slice (some ⟨B2, 0, none⟩) 24 k2) ∧ VA V B4 0 exO ∧ V.cell? ⟨O3, 0, none⟩ = some (.slice (some ⟨B4, 0, none⟩) 24 k4)) ⟨hE.trans (by first | exact hb | exact Ext.alloc hb _ | exact Ext.alloc (Ext.alloc hb _) _), vB.ext (by first | exact hb | exact Ext.alloc hb _ | exact Ext.alloc (Ext.alloc hb _) _), Ext.cell (by first | exact hb | exact Ext.alloc hb _ | exact Ext.alloc (Ext.alloc hb _) _) b3, Ext.cell (by first | exact hb | exact Ext.alloc hb _ | exact Ext.alloc (Ext.alloc hb _) _) b4, Ext.cell (by first | exact hb | exact Ext.alloc hb _ | exact Ext.alloc (Ext.alloc hb _) _) b5, Ext.cell (by first | exact hb | exact Ext.alloc hb _ | exact Ext.alloc (Ext.alloc hb _) _) cO1, vS.ext (by first | exact hb | exact Ext.alloc hb _ | exact Ext.alloc (Ext.alloc hb _) _), Ext.cell (by first | exact hb | exact Ext.alloc hb _ | exact Ext.alloc (Ext.alloc hb _) _) s3, Ext.cell (by first | exact hb | exact Ext.alloc hb _ | exact Ext.alloc (Ext.alloc hb _) _) s4, Ext.cell (by first | exact hb | exact Ext.alloc hb _ | exact Ext.alloc (Ext.alloc hb _) _) cO2, hv.ext (by first | exact Ext.refl _ | exact Ext.alloc (Ext.refl _) _ | exact Ext.alloc (Ext.alloc (Ext.refl _) _) _), by rw [hO]; simp [go_sem]⟩ ?_
  clear hE vB b3 b4 b5 cO1 vS s3 s4 cO2 vZ lvB lcO1 lvS lcO2 lvZ hb hc hf hz ha hO hv
  rintro V ⟨hE, vB, b3, b4, b5, cO1, vS, s3, s4, cO2, vO, cO3⟩
  have lvB := vB.lt
  have lcO1 := World.block_lt_of_cell? V _ cO1
  have lvS := vS.lt
  have lcO2 := World.block_lt_of_cell? V _ cO2
  have lvO := vO.lt
  have lcO3 := World.block_lt_of_cell? V _ cO3
  refine (Grown_v k4 2 _ vO (Ext.refl _) (by decide)).mono ?_
  rintro e w1 ⟨B5, k5, rfl, hB, hr, hv, hb⟩
  have hc := hb.cellE; have hf := hb.frozenE; have hz := hb.size; have ha := alloc_keeps w1; (try simp only [World.size_alloc] at hc hf hz); (try simp only [World.size_setCell] at hc hf hz); (try simp only [World.size_drew] at hc hf hz)
  replace hv : VA w1 B5 0 exW := hv
  clear hr hB
  go_wp2_with fail
  obtain ⟨O4, hO⟩ : ∃ O, O = w1.heap.size := ⟨_, rfl⟩
  rw [← hO]
  refine calls_name (fun V => Ext w V ∧ VA V B1 0 exB ∧ V.cell? ⟨B1, 3, none⟩ = some (.int .i64 211106232532995) ∧ V.cell? ⟨B1, 4, none⟩ = some (.int .i64 211106232532995) ∧ V.cell? ⟨B1, 5, none⟩ = some (.int .i64 0) ∧ V.cell? ⟨O1, 0, none⟩ = some (.slice (some ⟨B1, 0, none⟩) 24 k1) ∧ VA V B2 0 exS ∧ V.cell? ⟨B2, 3, none⟩ = some (.int .i64 30) ∧ V.cell? ⟨B2, 4, none⟩ = some (.int .i64 30) ∧ V.cell? ⟨O2, 0, none⟩ = some (.slice (some ⟨B2, 0, none⟩) 24 k2) ∧ VA V B4 0 exO ∧ V.cell? ⟨O3, 0, none⟩ = some (.slice (some ⟨B4, 0, none⟩) 24 k4) ∧ VA V B5 0 exW ∧ V.cell? ⟨O4, 0, none⟩ = some (.slice (some ⟨B5, 0, none⟩) 24 k5)) ⟨hE.trans (by first | exact hb | exact Ext.alloc hb _ | exact Ext.alloc (Ext.alloc hb _) _), vB.ext (by first | exact hb | exact Ext.alloc hb _ | exact Ext.alloc (Ext.alloc hb _) _), Ext.cell (by first | exact hb | exact Ext.alloc hb _ | exact Ext.alloc (Ext.alloc hb _) _) b3, Ext.cell (by first | exact hb | exact Ext.alloc hb _ | exact Ext.alloc (Ext.alloc hb _) _) b4, Ext.cell (by first | exact hb | exact Ext.alloc hb _ | exact Ext.alloc (Ext.alloc hb _) _) b5, Ext.cell (by first | exact hb | exact Ext.alloc hb _ | exact Ext.alloc (Ext.alloc hb _) _) cO1, vS.ext (by first | exact hb | exact Ext.alloc hb _ | exact Ext.alloc (Ext.alloc hb _) _), Ext.cell (by first | exact hb | exact Ext.alloc hb _ | exact Ext.alloc (Ext.alloc hb _) _) s3, Ext.cell (by first | exact hb | exact Ext.alloc hb _ | exact Ext.alloc (Ext.alloc hb _) _) s4, Ext.cell (by first | exact hb | exact Ext.alloc hb _ | exact Ext.alloc (Ext.alloc hb _) _) cO2, vO.ext (by first | exact hb | exact Ext.alloc hb _ | exact Ext.alloc (Ext.alloc hb _) _), Ext.cell (by first | exact hb | exact Ext.alloc hb _ | exact Ext.alloc (Ext.alloc hb _) _) cO3, hv.ext (by first | exact Ext.refl _ | exact Ext.alloc (Ext.refl _) _ | exact Ext.alloc (Ext.alloc (Ext.refl _) _) _), by rw [hO]; simp [go_sem]⟩ ?_
  clear hE vB b3 b4 b5 cO1 vS s3 s4 cO2 vO cO3 lvB lcO1 lvS lcO2 lvO lcO3 hb hc hf hz ha hO hv
  rintro V ⟨hE, vB, b3, b4, b5, cO1, vS, s3, s4, cO2, vO, cO3, vW, cO4⟩
  have lvB := vB.lt
  have lcO1 := World.block_lt_of_cell? V _ cO1
  have lvS := vS.lt
  have lcO2 := World.block_lt_of_cell? V _ cO2
  have lvO := vO.lt
  have lcO3 := World.block_lt_of_cell? V _ cO3
  have lvW := vW.lt
  have lcO4 := World.block_lt_of_cell? V _ cO4
  refine (Box_n 0 23 1 2 _ (by decide)).mono ?_
  rintro e w1 ⟨rfl, hb⟩
  have hc := hb.cellE; have hf := hb.frozenE; have hz := hb.size; have ha := alloc_keeps w1; (try simp only [World.size_alloc] at hc hf hz); (try simp only [World.size_setCell] at hc hf hz); (try simp only [World.size_drew] at hc hf hz)
  go_wp2_with fail
  refine calls_name (fun V => Ext w V ∧ VA V B1 0 exB ∧ V.cell? ⟨B1, 3, none⟩ = some (.int .i64 211106232532995) ∧ V.cell? ⟨B1, 4, none⟩ = some (.int .i64 211106232532995) ∧ V.cell? ⟨B1, 5, none⟩ = some (.int .i64 0) ∧ V.cell? ⟨O1, 0, none⟩ = some (.slice (some ⟨B1, 0, none⟩) 24 k1) ∧ VA V B2 0 exS ∧ V.cell? ⟨B2, 3, none⟩ = some (.int .i64 30) ∧ V.cell? ⟨B2, 4, none⟩ = some (.int .i64 30) ∧ V.cell? ⟨O2, 0, none⟩ = some (.slice (some ⟨B2, 0, none⟩) 24 k2) ∧ VA V B4 0 exO ∧ V.cell? ⟨O3, 0, none⟩ = some (.slice (some ⟨B4, 0, none⟩) 24 k4) ∧ VA V B5 0 exW ∧ V.cell? ⟨O4, 0, none⟩ = some (.slice (some ⟨B5, 0, none⟩) 24 k5)) ⟨hE.trans (by first | exact hb | exact Ext.alloc hb _ | exact Ext.alloc (Ext.alloc hb _) _), vB.ext (by first | exact hb | exact Ext.alloc hb _ | exact Ext.alloc (Ext.alloc hb _) _), Ext.cell (by first | exact hb | exact Ext.alloc hb _ | exact Ext.alloc (Ext.alloc hb _) _) b3, Ext.cell (by first | exact hb | exact Ext.alloc hb _ | exact Ext.alloc (Ext.alloc hb _) _) b4, Ext.cell (by first | exact hb | exact Ext.alloc hb _ | exact Ext.alloc (Ext.alloc hb _) _) b5, Ext.cell (by first | exact hb | exact Ext.alloc hb _ | exact Ext.alloc (Ext.alloc hb _) _) cO1, vS.ext (by first | exact hb | exact Ext.alloc hb _ | exact Ext.alloc (Ext.alloc hb _) _), Ext.cell (by first | exact hb | exact Ext.alloc hb _ | exact Ext.alloc (Ext.alloc hb _) _) s3, Ext.cell (by first | exact hb | exact Ext.alloc hb _ | exact Ext.alloc (Ext.alloc hb _) _) s4, Ext.cell (by first | exact hb | exact Ext.alloc hb _ | exact Ext.alloc (Ext.alloc hb _) _) cO2, vO.ext (by first | exact hb | exact Ext.alloc hb _ | exact Ext.alloc (Ext.alloc hb _) _), Ext.cell (by first | exact hb | exact Ext.alloc hb _ | exact Ext.alloc (Ext.alloc hb _) _) cO3, vW.ext (by first | exact hb | exact Ext.alloc hb _ | exact Ext.alloc (Ext.alloc hb _) _), Ext.cell (by first | exact hb | exact Ext.alloc hb _ | exact Ext.alloc (Ext.alloc hb _) _) cO4⟩ ?_
  clear hE vB b3 b4 b5 cO1 vS s3 s4 cO2 vO cO3 vW cO4 lvB lcO1 lvS lcO2 lvO lcO3 lvW lcO4 hb hc hf hz ha
  rintro V ⟨hE, vB, b3, b4, b5, cO1, vS, s3, s4, cO2, vO, cO3, vW, cO4⟩
  have lvB := vB.lt
  have lcO1 := World.block_lt_of_cell? V _ cO1
  have lvS := vS.lt
  have lcO2 := World.block_lt_of_cell? V _ cO2
  have lvO := vO.lt
  have lcO3 := World.block_lt_of_cell? V _ cO3
  have lvW := vW.lt
  have lcO4 := World.block_lt_of_cell? V _ cO4
  refine (Grown_n _ exO 24 k4 true 25 _ vO.aa (by decide)).mono ?_
  rintro e w1 ⟨rfl, hb⟩
  have hc := hb.cellE; have hf := hb.frozenE; have hz := hb.size; have ha := alloc_keeps w1; (try simp only [World.size_alloc] at hc hf hz); (try simp only [World.size_setCell] at hc hf hz); (try simp only [World.size_drew] at hc hf hz)
  go_wp2_with fail
  refine calls_name (fun V => Ext w V ∧ VA V B1 0 exB ∧ V.cell? ⟨B1, 3, none⟩ = some (.int .i64 211106232532995) ∧ V.cell? ⟨B1, 4, none⟩ = some (.int .i64 211106232532995) ∧ V.cell? ⟨B1, 5, none⟩ = some (.int .i64 0) ∧ V.cell? ⟨O1, 0, none⟩ = some (.slice (some ⟨B1, 0, none⟩) 24 k1) ∧ VA V B2 0 exS ∧ V.cell? ⟨B2, 3, none⟩ = some (.int .i64 30) ∧ V.cell? ⟨B2, 4, none⟩ = some (.int .i64 30) ∧ V.cell? ⟨O2, 0, none⟩ = some (.slice (some ⟨B2, 0, none⟩) 24 k2) ∧ VA V B5 0 exW ∧ V.cell? ⟨O4, 0, none⟩ = some (.slice (some ⟨B5, 0, none⟩) 24 k5)) ⟨hE.trans (by first | exact hb | exact Ext.alloc hb _ | exact Ext.alloc (Ext.alloc hb _) _), vB.ext (by first | exact hb | exact Ext.alloc hb _ | exact Ext.alloc (Ext.alloc hb _) _), Ext.cell (by first | exact hb | exact Ext.alloc hb _ | exact Ext.alloc (Ext.alloc hb _) _) b3, Ext.cell (by first | exact hb | exact Ext.alloc hb _ | exact Ext.alloc (Ext.alloc hb _) _) b4, Ext.cell (by first | exact hb | exact Ext.alloc hb _ | exact Ext.alloc (Ext.alloc hb _) _) b5, Ext.cell (by first | exact hb | exact Ext.alloc hb _ | exact Ext.alloc (Ext.alloc hb _) _) cO1, vS.ext (by first | exact hb | exact Ext.alloc hb _ | exact Ext.alloc (Ext.alloc hb _) _), Ext.cell (by first | exact hb | exact Ext.alloc hb _ | exact Ext.alloc (Ext.alloc hb _) _) s3, Ext.cell (by first | exact hb | exact Ext.alloc hb _ | exact Ext.alloc (Ext.alloc hb _) _) s4, Ext.cell (by first | exact hb | exact Ext.alloc hb _ | exact Ext.alloc (Ext.alloc hb _) _) cO2, vW.ext (by first | exact hb | exact Ext.alloc hb _ | exact Ext.alloc (Ext.alloc hb _) _), Ext.cell (by first | exact hb | exact Ext.alloc hb _ | exact Ext.alloc (Ext.alloc hb _) _) cO4⟩ ?_
  clear hE vB b3 b4 b5 cO1 vS s3 s4 cO2 vO cO3 vW cO4 lvB lcO1 lvS lcO2 lvO lcO3 lvW lcO4 hb hc hf hz ha
  rintro V ⟨hE, vB, b3, b4, b5, cO1, vS, s3, s4, cO2, vW, cO4⟩
  have lvB := vB.lt
  have lcO1 := World.block_lt_of_cell? V _ cO1
  have lvS := vS.lt
  have lcO2 := World.block_lt_of_cell? V _ cO2
  have lvW := vW.lt
  have lcO4 := World.block_lt_of_cell? V _ cO4
  refine (Near_c 46 3 1 5 _).mono ?_
  rintro e w1 ⟨rfl, hb⟩
  have hc := hb.cellE; have hf := hb.frozenE; have hz := hb.size; have ha := alloc_keeps w1; (try simp only [World.size_alloc] at hc hf hz); (try simp only [World.size_setCell] at hc hf hz); (try simp only [World.size_drew] at hc hf hz)
  rw [ex_n1]
  go_wp2_with fail
  refine calls_name (fun V => Ext w V ∧ VA V B1 0 exB ∧ V.cell? ⟨B1, 3, none⟩ = some (.int .i64 211106232532995) ∧ V.cell? ⟨B1, 4, none⟩ = some (.int .i64 211106232532995) ∧ V.cell? ⟨B1, 5, none⟩ = some (.int .i64 0) ∧ V.cell? ⟨O1, 0, none⟩ = some (.slice (some ⟨B1, 0, none⟩) 24 k1) ∧ VA V B2 0 exS ∧ V.cell? ⟨B2, 3, none⟩ = some (.int .i64 30) ∧ V.cell? ⟨B2, 4, none⟩ = some (.int .i64 30) ∧ V.cell? ⟨O2, 0, none⟩ = some (.slice (some ⟨B2, 0, none⟩) 24 k2) ∧ VA V B5 0 exW ∧ V.cell? ⟨O4, 0, none⟩ = some (.slice (some ⟨B5, 0, none⟩) 24 k5)) ⟨hE.trans (by first | exact hb | exact Ext.alloc hb _ | exact Ext.alloc (Ext.alloc hb _) _), vB.ext (by first | exact hb | exact Ext.alloc hb _ | exact Ext.alloc (Ext.alloc hb _) _), Ext.cell (by first | exact hb | exact Ext.alloc hb _ | exact Ext.alloc (Ext.alloc hb _) _) b3, Ext.cell (by first | exact hb | exact Ext.alloc hb _ | exact Ext.alloc (Ext.alloc hb _) _) b4, Ext.cell (by first | exact hb | exact Ext.alloc hb _ | exact Ext.alloc (Ext.alloc hb _) _) b5, Ext.cell (by first | exact hb | exact Ext.alloc hb _ | exact Ext.alloc (Ext.alloc hb _) _) cO1, vS.ext (by first | exact hb | exact Ext.alloc hb _ | exact Ext.alloc (Ext.alloc hb _) _), Ext.cell (by first | exact hb | exact Ext.alloc hb _ | exact Ext.alloc (Ext.alloc hb _) _) s3, Ext.cell (by first | exact hb | exact Ext.alloc hb _ | exact Ext.alloc (Ext.alloc hb _) _) s4, Ext.cell (by first | exact hb | exact Ext.alloc hb _ | exact Ext.alloc (Ext.alloc hb _) _) cO2, vW.ext (by first | exact hb | exact Ext.alloc hb _ | exact Ext.alloc (Ext.alloc hb _) _), Ext.cell (by first | exact hb | exact Ext.alloc hb _ | exact Ext.alloc (Ext.alloc hb _) _) cO4⟩ ?_
  clear hE vB b3 b4 b5 cO1 vS s3 s4 cO2 vW cO4 lvB lcO1 lvS lcO2 lvW lcO4 hb hc hf hz ha
  rintro V ⟨hE, vB, b3, b4, b5, cO1, vS, s3, s4, cO2, vW, cO4⟩
  have lvB := vB.lt
  have lcO1 := World.block_lt_of_cell? V _ cO1
  have lvS := vS.lt
  have lcO2 := World.block_lt_of_cell? V _ cO2
  have lvW := vW.lt
  have lcO4 := World.block_lt_of_cell? V _ cO4
  refine (Near_c 0 0 24 0 _).mono ?_
  rintro e w1 ⟨rfl, hb⟩
  have hc := hb.cellE; have hf := hb.frozenE; have hz := hb.size; have ha := alloc_keeps w1; (try simp only [World.size_alloc] at hc hf hz); (try simp only [World.size_setCell] at hc hf hz); (try simp only [World.size_drew] at hc hf hz)
  rw [ex_n2]
  go_wp2_with fail
  refine calls_name (fun V => Ext w V ∧ VA V B1 0 exB ∧ V.cell? ⟨B1, 3, none⟩ = some (.int .i64 211106232532995) ∧ V.cell? ⟨B1, 4, none⟩ = some (.int .i64 211106232532995) ∧ V.cell? ⟨B1, 5, none⟩ = some (.int .i64 0) ∧ V.cell? ⟨O1, 0, none⟩ = some (.slice (some ⟨B1, 0, none⟩) 24 k1) ∧ VA V B2 0 exS ∧ V.cell? ⟨B2, 3, none⟩ = some (.int .i64 30) ∧ V.cell? ⟨B2, 4, none⟩ = some (.int .i64 30) ∧ V.cell? ⟨O2, 0, none⟩ = some (.slice (some ⟨B2, 0, none⟩) 24 k2) ∧ VA V B5 0 exW ∧ V.cell? ⟨O4, 0, none⟩ = some (.slice (some ⟨B5, 0, none⟩) 24 k5)) ⟨hE.trans (by first | exact hb | exact Ext.alloc hb _ | exact Ext.alloc (Ext.alloc hb _) _), vB.ext (by first | exact hb | exact Ext.alloc hb _ | exact Ext.alloc (Ext.alloc hb _) _), Ext.cell (by first | exact hb | exact Ext.alloc hb _ | exact Ext.alloc (Ext.alloc hb _) _) b3, Ext.cell (by first | exact hb | exact Ext.alloc hb _ | exact Ext.alloc (Ext.alloc hb _) _) b4, Ext.cell (by first | exact hb | exact Ext.alloc hb _ | exact Ext.alloc (Ext.alloc hb _) _) b5, Ext.cell (by first | exact hb | exact Ext.alloc hb _ | exact Ext.alloc (Ext.alloc hb _) _) cO1, vS.ext (by first | exact hb | exact Ext.alloc hb _ | exact Ext.alloc (Ext.alloc hb _) _), Ext.cell (by first | exact hb | exact Ext.alloc hb _ | exact Ext.alloc (Ext.alloc hb _) _) s3, Ext.cell (by first | exact hb | exact Ext.alloc hb _ | exact Ext.alloc (Ext.alloc hb _) _) s4, Ext.cell (by first | exact hb | exact Ext.alloc hb _ | exact Ext.alloc (Ext.alloc hb _) _) cO2, vW.ext (by first | exact hb | exact Ext.alloc hb _ | exact Ext.alloc (Ext.alloc hb _) _), Ext.cell (by first | exact hb | exact Ext.alloc hb _ | exact Ext.alloc (Ext.alloc hb _) _) cO4⟩ ?_
  clear hE vB b3 b4 b5 cO1 vS s3 s4 cO2 vW cO4 lvB lcO1 lvS lcO2 lvW lcO4 hb hc hf hz ha
  rintro V ⟨hE, vB, b3, b4, b5, cO1, vS, s3, s4, cO2, vW, cO4⟩
  have lvB := vB.lt
  have lcO1 := World.block_lt_of_cell? V _ cO1
  have lvS := vS.lt
  have lcO2 := World.block_lt_of_cell? V _ cO2
  have lvW := vW.lt
  have lcO4 := World.block_lt_of_cell? V _ cO4
  refine (Near_c 48 0 0 0 _).mono ?_
  rintro e w1 ⟨rfl, hb⟩
  have hc := hb.cellE; have hf := hb.frozenE; have hz := hb.size; have ha := alloc_keeps w1; (try simp only [World.size_alloc] at hc hf hz); (try simp only [World.size_setCell] at hc hf hz); (try simp only [World.size_drew] at hc hf hz)
  rw [ex_n3]
  go_wp2_with fail
  refine calls_name (fun V => Ext w V ∧ VA V B1 0 exB ∧ V.cell? ⟨B1, 3, none⟩ = some (.int .i64 211106232532995) ∧ V.cell? ⟨B1, 4, none⟩ = some (.int .i64 211106232532995) ∧ V.cell? ⟨B1, 5, none⟩ = some (.int .i64 0) ∧ V.cell? ⟨O1, 0, none⟩ = some (.slice (some ⟨B1, 0, none⟩) 24 k1) ∧ VA V B2 0 exS ∧ V.cell? ⟨B2, 3, none⟩ = some (.int .i64 30) ∧ V.cell? ⟨B2, 4, none⟩ = some (.int .i64 30) ∧ V.cell? ⟨O2, 0, none⟩ = some (.slice (some ⟨B2, 0, none⟩) 24 k2) ∧ VA V B5 0 exW ∧ V.cell? ⟨O4, 0, none⟩ = some (.slice (some ⟨B5, 0, none⟩) 24 k5)) ⟨hE.trans (by first | exact hb | exact Ext.alloc hb _ | exact Ext.alloc (Ext.alloc hb _) _), vB.ext (by first | exact hb | exact Ext.alloc hb _ | exact Ext.alloc (Ext.alloc hb _) _), Ext.cell (by first | exact hb | exact Ext.alloc hb _ | exact Ext.alloc (Ext.alloc hb _) _) b3, Ext.cell (by first | exact hb | exact Ext.alloc hb _ | exact Ext.alloc (Ext.alloc hb _) _) b4, Ext.cell (by first | exact hb | exact Ext.alloc hb _ | exact Ext.alloc (Ext.alloc hb _) _) b5, Ext.cell (by first | exact hb | exact Ext.alloc hb _ | exact Ext.alloc (Ext.alloc hb _) _) cO1, vS.ext (by first | exact hb | exact Ext.alloc hb _ | exact Ext.alloc (Ext.alloc hb _) _), Ext.cell (by first | exact hb | exact Ext.alloc hb _ | exact Ext.alloc (Ext.alloc hb _) _) s3, Ext.cell (by first | exact hb | exact Ext.alloc hb _ | exact Ext.alloc (Ext.alloc hb _) _) s4, Ext.cell (by first | exact hb | exact Ext.alloc hb _ | exact Ext.alloc (Ext.alloc hb _) _) cO2, vW.ext (by first | exact hb | exact Ext.alloc hb _ | exact Ext.alloc (Ext.alloc hb _) _), Ext.cell (by first | exact hb | exact Ext.alloc hb _ | exact Ext.alloc (Ext.alloc hb _) _) cO4⟩ ?_
  clear hE vB b3 b4 b5 cO1 vS s3 s4 cO2 vW cO4 lvB lcO1 lvS lcO2 lvW lcO4 hb hc hf hz ha
  rintro V ⟨hE, vB, b3, b4, b5, cO1, vS, s3, s4, cO2, vW, cO4⟩
  have lvB := vB.lt
  have lcO1 := World.block_lt_of_cell? V _ cO1
  have lvS := vS.lt
  have lcO2 := World.block_lt_of_cell? V _ cO2
  have lvW := vW.lt
  have lcO4 := World.block_lt_of_cell? V _ cO4
  refine (Union_v k1 k2 _ vB (Ext.refl _) vS (Ext.refl _)).mono ?_
  rintro e w1 ⟨B6, k6, rfl, hB, hr, hv, hb⟩
  have hc := hb.cellE; have hf := hb.frozenE; have hz := hb.size; have ha := alloc_keeps w1; (try simp only [World.size_alloc] at hc hf hz); (try simp only [World.size_setCell] at hc hf hz); (try simp only [World.size_drew] at hc hf hz)
  replace hv : VA w1 B6 0 exU := hv
  clear hr hB
  go_wp2_with fail
  obtain ⟨O5, hO⟩ : ∃ O, O = w1.heap.size := ⟨_, rfl⟩
  rw [← hO]
  refine calls_name (fun V => Ext w V ∧ VA V B1 0 exB ∧ V.cell? ⟨O1, 0, none⟩ = some (.slice (some ⟨B1, 0, none⟩) 24 k1) ∧ VA V B2 0 exS ∧ V.cell? ⟨O2, 0, none⟩ = some (.slice (some ⟨B2, 0, none⟩) 24 k2) ∧ VA V B5 0 exW ∧ V.cell? ⟨O4, 0, none⟩ = some (.slice (some ⟨B5, 0, none⟩) 24 k5) ∧ VA V B6 0 exU ∧ V.cell? ⟨O5, 0, none⟩ = some (.slice (some ⟨B6, 0, none⟩) 24 k6)) ⟨hE.trans (by first | exact hb | exact Ext.alloc hb _ | exact Ext.alloc (Ext.alloc hb _) _), vB.ext (by first | exact hb | exact Ext.alloc hb _ | exact Ext.alloc (Ext.alloc hb _) _), Ext.cell (by first | exact hb | exact Ext.alloc hb _ | exact Ext.alloc (Ext.alloc hb _) _) cO1, vS.ext (by first | exact hb | exact Ext.alloc hb _ | exact Ext.alloc (Ext.alloc hb _) _), Ext.cell (by first | exact hb | exact Ext.alloc hb _ | exact Ext.alloc (Ext.alloc hb _) _) cO2, vW.ext (by first | exact hb | exact Ext.alloc hb _ | exact Ext.alloc (Ext.alloc hb _) _), Ext.cell (by first | exact hb | exact Ext.alloc hb _ | exact Ext.alloc (Ext.alloc hb _) _) cO4, hv.ext (by first | exact Ext.refl _ | exact Ext.alloc (Ext.refl _) _ | exact Ext.alloc (Ext.alloc (Ext.refl _) _) _), by rw [hO]; simp [go_sem]⟩ ?_
  clear hE vB b3 b4 b5 cO1 vS s3 s4 cO2 vW cO4 lvB lcO1 lvS lcO2 lvW lcO4 hb hc hf hz ha hO hv
  rintro V ⟨hE, vB, cO1, vS, cO2, vW, cO4, vU, cO5⟩
  have lvB := vB.lt
  have lcO1 := World.block_lt_of_cell? V _ cO1
  have lvS := vS.lt
  have lcO2 := World.block_lt_of_cell? V _ cO2
  have lvW := vW.lt
  have lcO4 := World.block_lt_of_cell? V _ cO4
  have lvU := vU.lt
  have lcO5 := World.block_lt_of_cell? V _ cO5
  refine (Meet_v k1 k2 _ vB (Ext.refl _) vS (Ext.refl _)).mono ?_
  rintro e w1 ⟨B7, k7, rfl, hB, hr, hv, hb⟩
  have hc := hb.cellE; have hf := hb.frozenE; have hz := hb.size; have ha := alloc_keeps w1; (try simp only [World.size_alloc] at hc hf hz); (try simp only [World.size_setCell] at hc hf hz); (try simp only [World.size_drew] at hc hf hz)
  replace hv : VA w1 B7 0 exM := hv
  clear hr hB
  go_wp2_with fail
  obtain ⟨O6, hO⟩ : ∃ O, O = w1.heap.size := ⟨_, rfl⟩
  rw [← hO]
  refine calls_name (fun V => Ext w V ∧ VA V B1 0 exB ∧ V.cell? ⟨O1, 0, none⟩ = some (.slice (some ⟨B1, 0, none⟩) 24 k1) ∧ VA V B2 0 exS ∧ V.cell? ⟨O2, 0, none⟩ = some (.slice (some ⟨B2, 0, none⟩) 24 k2) ∧ VA V B5 0 exW ∧ V.cell? ⟨O4, 0, none⟩ = some (.slice (some ⟨B5, 0, none⟩) 24 k5) ∧ VA V B6 0 exU ∧ V.cell? ⟨O5, 0, none⟩ = some (.slice (some ⟨B6, 0, none⟩) 24 k6) ∧ VA V B7 0 exM ∧ V.cell? ⟨O6, 0, none⟩ = some (.slice (some ⟨B7, 0, none⟩) 24 k7)) ⟨hE.trans (by first | exact hb | exact Ext.alloc hb _ | exact Ext.alloc (Ext.alloc hb _) _), vB.ext (by first | exact hb | exact Ext.alloc hb _ | exact Ext.alloc (Ext.alloc hb _) _), Ext.cell (by first | exact hb | exact Ext.alloc hb _ | exact Ext.alloc (Ext.alloc hb _) _) cO1, vS.ext (by first | exact hb | exact Ext.alloc hb _ | exact Ext.alloc (Ext.alloc hb _) _), Ext.cell (by first | exact hb | exact Ext.alloc hb _ | exact Ext.alloc (Ext.alloc hb _) _) cO2, vW.ext (by first | exact hb | exact Ext.alloc hb _ | exact Ext.alloc (Ext.alloc hb _) _), Ext.cell (by first | exact hb | exact Ext.alloc hb _ | exact Ext.alloc (Ext.alloc hb _) _) cO4, vU.ext (by first | exact hb | exact Ext.alloc hb _ | exact Ext.alloc (Ext.alloc hb _) _), Ext.cell (by first | exact hb | exact Ext.alloc hb _ | exact Ext.alloc (Ext.alloc hb _) _) cO5, hv.ext (by first | exact Ext.refl _ | exact Ext.alloc (Ext.refl _) _ | exact Ext.alloc (Ext.alloc (Ext.refl _) _) _), by rw [hO]; simp [go_sem]⟩ ?_
  clear hE vB cO1 vS cO2 vW cO4 vU cO5 lvB lcO1 lvS lcO2 lvW lcO4 lvU lcO5 hb hc hf hz ha hO hv
  rintro V ⟨hE, vB, cO1, vS, cO2, vW, cO4, vU, cO5, vM, cO6⟩
  have lvB := vB.lt
  have lcO1 := World.block_lt_of_cell? V _ cO1
  have lvS := vS.lt
  have lcO2 := World.block_lt_of_cell? V _ cO2
  have lvW := vW.lt
  have lcO4 := World.block_lt_of_cell? V _ cO4
  have lvU := vU.lt
  have lcO5 := World.block_lt_of_cell? V _ cO5
  have lvM := vM.lt
  have lcO6 := World.block_lt_of_cell? V _ cO6
  refine (Less_v k1 k2 _ vB (Ext.refl _) vS (Ext.refl _)).mono ?_
  rintro e w1 ⟨B8, k8, rfl, hB, hr, hv, hb⟩
  have hc := hb.cellE; have hf := hb.frozenE; have hz := hb.size; have ha := alloc_keeps w1; (try simp only [World.size_alloc] at hc hf hz); (try simp only [World.size_setCell] at hc hf hz); (try simp only [World.size_drew] at hc hf hz)
  replace hv : VA w1 B8 0 exD := hv
  clear hr hB
  go_wp2_with fail
  obtain ⟨O7, hO⟩ : ∃ O, O = w1.heap.size := ⟨_, rfl⟩
  rw [← hO]
  refine calls_name (fun V => Ext w V ∧ VA V B1 0 exB ∧ V.cell? ⟨O1, 0, none⟩ = some (.slice (some ⟨B1, 0, none⟩) 24 k1) ∧ VA V B2 0 exS ∧ V.cell? ⟨O2, 0, none⟩ = some (.slice (some ⟨B2, 0, none⟩) 24 k2) ∧ VA V B5 0 exW ∧ V.cell? ⟨O4, 0, none⟩ = some (.slice (some ⟨B5, 0, none⟩) 24 k5) ∧ VA V B6 0 exU ∧ V.cell? ⟨O5, 0, none⟩ = some (.slice (some ⟨B6, 0, none⟩) 24 k6) ∧ VA V B7 0 exM ∧ V.cell? ⟨O6, 0, none⟩ = some (.slice (some ⟨B7, 0, none⟩) 24 k7) ∧ VA V B8 0 exD ∧ V.cell? ⟨O7, 0, none⟩ = some (.slice (some ⟨B8, 0, none⟩) 24 k8)) ⟨hE.trans (by first | exact hb | exact Ext.alloc hb _ | exact Ext.alloc (Ext.alloc hb _) _), vB.ext (by first | exact hb | exact Ext.alloc hb _ | exact Ext.alloc (Ext.alloc hb _) _), Ext.cell (by first | exact hb | exact Ext.alloc hb _ | exact Ext.alloc (Ext.alloc hb _) _) cO1, vS.ext (by first | exact hb | exact Ext.alloc hb _ | exact Ext.alloc (Ext.alloc hb _) _), Ext.cell (by first | exact hb | exact Ext.alloc hb _ | exact Ext.alloc (Ext.alloc hb _) _) cO2, vW.ext (by first | exact hb | exact Ext.alloc hb _ | exact Ext.alloc (Ext.alloc hb _) _), Ext.cell (by first | exact hb | exact Ext.alloc hb _ | exact Ext.alloc (Ext.alloc hb _) _) cO4, vU.ext (by first | exact hb | exact Ext.alloc hb _ | exact Ext.alloc (Ext.alloc hb _) _), Ext.cell (by first | exact hb | exact Ext.alloc hb _ | exact Ext.alloc (Ext.alloc hb _) _) cO5, vM.ext (by first | exact hb | exact Ext.alloc hb _ | exact Ext.alloc (Ext.alloc hb _) _), Ext.cell (by first | exact hb | exact Ext.alloc hb _ | exact Ext.alloc (Ext.alloc hb _) _) cO6, hv.ext (by first | exact Ext.refl _ | exact Ext.alloc (Ext.refl _) _ | exact Ext.alloc (Ext.alloc (Ext.refl _) _) _), by rw [hO]; simp [go_sem]⟩ ?_
  clear hE vB cO1 vS cO2 vW cO4 vU cO5 vM cO6 lvB lcO1 lvS lcO2 lvW lcO4 lvU lcO5 lvM lcO6 hb hc hf hz ha hO hv
  rintro V ⟨hE, vB, cO1, vS, cO2, vW, cO4, vU, cO5, vM, cO6, vD, cO7⟩
  have lvB := vB.lt
  have lcO1 := World.block_lt_of_cell? V _ cO1
  have lvS := vS.lt
  have lcO2 := World.block_lt_of_cell? V _ cO2
  have lvW := vW.lt
  have lcO4 := World.block_lt_of_cell? V _ cO4
  have lvU := vU.lt
  have lcO5 := World.block_lt_of_cell? V _ cO5
  have lvM := vM.lt
  have lcO6 := World.block_lt_of_cell? V _ cO6
  have lvD := vD.lt
  have lcO7 := World.block_lt_of_cell? V _ cO7
  refine (Count_v k1 _ vB (Ext.refl _) (HT.out.ext hE)).mono ?_
  rintro e w1 ⟨rfl, hb⟩
  have hc := hb.cellE; have hf := hb.frozenE; have hz := hb.size; have ha := alloc_keeps w1; (try simp only [World.size_alloc] at hc hf hz); (try simp only [World.size_setCell] at hc hf hz); (try simp only [World.size_drew] at hc hf hz)
  rw [exB_n]
  go_wp2_with fail
  refine calls_name (fun V => Ext w V ∧ VA V B1 0 exB ∧ V.cell? ⟨O1, 0, none⟩ = some (.slice (some ⟨B1, 0, none⟩) 24 k1) ∧ VA V B2 0 exS ∧ V.cell? ⟨O2, 0, none⟩ = some (.slice (some ⟨B2, 0, none⟩) 24 k2) ∧ VA V B5 0 exW ∧ V.cell? ⟨O4, 0, none⟩ = some (.slice (some ⟨B5, 0, none⟩) 24 k5) ∧ VA V B6 0 exU ∧ V.cell? ⟨O5, 0, none⟩ = some (.slice (some ⟨B6, 0, none⟩) 24 k6) ∧ VA V B7 0 exM ∧ V.cell? ⟨O6, 0, none⟩ = some (.slice (some ⟨B7, 0, none⟩) 24 k7) ∧ VA V B8 0 exD ∧ V.cell? ⟨O7, 0, none⟩ = some (.slice (some ⟨B8, 0, none⟩) 24 k8)) ⟨hE.trans (by first | exact hb | exact Ext.alloc hb _ | exact Ext.alloc (Ext.alloc hb _) _), vB.ext (by first | exact hb | exact Ext.alloc hb _ | exact Ext.alloc (Ext.alloc hb _) _), Ext.cell (by first | exact hb | exact Ext.alloc hb _ | exact Ext.alloc (Ext.alloc hb _) _) cO1, vS.ext (by first | exact hb | exact Ext.alloc hb _ | exact Ext.alloc (Ext.alloc hb _) _), Ext.cell (by first | exact hb | exact Ext.alloc hb _ | exact Ext.alloc (Ext.alloc hb _) _) cO2, vW.ext (by first | exact hb | exact Ext.alloc hb _ | exact Ext.alloc (Ext.alloc hb _) _), Ext.cell (by first | exact hb | exact Ext.alloc hb _ | exact Ext.alloc (Ext.alloc hb _) _) cO4, vU.ext (by first | exact hb | exact Ext.alloc hb _ | exact Ext.alloc (Ext.alloc hb _) _), Ext.cell (by first | exact hb | exact Ext.alloc hb _ | exact Ext.alloc (Ext.alloc hb _) _) cO5, vM.ext (by first | exact hb | exact Ext.alloc hb _ | exact Ext.alloc (Ext.alloc hb _) _), Ext.cell (by first | exact hb | exact Ext.alloc hb _ | exact Ext.alloc (Ext.alloc hb _) _) cO6, vD.ext (by first | exact hb | exact Ext.alloc hb _ | exact Ext.alloc (Ext.alloc hb _) _), Ext.cell (by first | exact hb | exact Ext.alloc hb _ | exact Ext.alloc (Ext.alloc hb _) _) cO7⟩ ?_
  clear hE vB cO1 vS cO2 vW cO4 vU cO5 vM cO6 vD cO7 lvB lcO1 lvS lcO2 lvW lcO4 lvU lcO5 lvM lcO6 lvD lcO7 hb hc hf hz ha
  rintro V ⟨hE, vB, cO1, vS, cO2, vW, cO4, vU, cO5, vM, cO6, vD, cO7⟩
  have lvB := vB.lt
  have lcO1 := World.block_lt_of_cell? V _ cO1
  have lvS := vS.lt
  have lcO2 := World.block_lt_of_cell? V _ cO2
  have lvW := vW.lt
  have lcO4 := World.block_lt_of_cell? V _ cO4
  have lvU := vU.lt
  have lcO5 := World.block_lt_of_cell? V _ cO5
  have lvM := vM.lt
  have lcO6 := World.block_lt_of_cell? V _ cO6
  have lvD := vD.lt
  have lcO7 := World.block_lt_of_cell? V _ cO7
  refine (Count_v k5 _ vW (Ext.refl _) (HT.out.ext hE)).mono ?_
  rintro e w1 ⟨rfl, hb⟩
  have hc := hb.cellE; have hf := hb.frozenE; have hz := hb.size; have ha := alloc_keeps w1; (try simp only [World.size_alloc] at hc hf hz); (try simp only [World.size_setCell] at hc hf hz); (try simp only [World.size_drew] at hc hf hz)
  rw [exW_n]
  go_wp2_with fail
  refine calls_name (fun V => Ext w V ∧ VA V B1 0 exB ∧ V.cell? ⟨O1, 0, none⟩ = some (.slice (some ⟨B1, 0, none⟩) 24 k1) ∧ VA V B2 0 exS ∧ V.cell? ⟨O2, 0, none⟩ = some (.slice (some ⟨B2, 0, none⟩) 24 k2) ∧ VA V B5 0 exW ∧ V.cell? ⟨O4, 0, none⟩ = some (.slice (some ⟨B5, 0, none⟩) 24 k5) ∧ VA V B6 0 exU ∧ V.cell? ⟨O5, 0, none⟩ = some (.slice (some ⟨B6, 0, none⟩) 24 k6) ∧ VA V B7 0 exM ∧ V.cell? ⟨O6, 0, none⟩ = some (.slice (some ⟨B7, 0, none⟩) 24 k7) ∧ VA V B8 0 exD ∧ V.cell? ⟨O7, 0, none⟩ = some (.slice (some ⟨B8, 0, none⟩) 24 k8)) ⟨hE.trans (by first | exact hb | exact Ext.alloc hb _ | exact Ext.alloc (Ext.alloc hb _) _), vB.ext (by first | exact hb | exact Ext.alloc hb _ | exact Ext.alloc (Ext.alloc hb _) _), Ext.cell (by first | exact hb | exact Ext.alloc hb _ | exact Ext.alloc (Ext.alloc hb _) _) cO1, vS.ext (by first | exact hb | exact Ext.alloc hb _ | exact Ext.alloc (Ext.alloc hb _) _), Ext.cell (by first | exact hb | exact Ext.alloc hb _ | exact Ext.alloc (Ext.alloc hb _) _) cO2, vW.ext (by first | exact hb | exact Ext.alloc hb _ | exact Ext.alloc (Ext.alloc hb _) _), Ext.cell (by first | exact hb | exact Ext.alloc hb _ | exact Ext.alloc (Ext.alloc hb _) _) cO4, vU.ext (by first | exact hb | exact Ext.alloc hb _ | exact Ext.alloc (Ext.alloc hb _) _), Ext.cell (by first | exact hb | exact Ext.alloc hb _ | exact Ext.alloc (Ext.alloc hb _) _) cO5, vM.ext (by first | exact hb | exact Ext.alloc hb _ | exact Ext.alloc (Ext.alloc hb _) _), Ext.cell (by first | exact hb | exact Ext.alloc hb _ | exact Ext.alloc (Ext.alloc hb _) _) cO6, vD.ext (by first | exact hb | exact Ext.alloc hb _ | exact Ext.alloc (Ext.alloc hb _) _), Ext.cell (by first | exact hb | exact Ext.alloc hb _ | exact Ext.alloc (Ext.alloc hb _) _) cO7⟩ ?_
  clear hE vB cO1 vS cO2 vW cO4 vU cO5 vM cO6 vD cO7 lvB lcO1 lvS lcO2 lvW lcO4 lvU lcO5 lvM lcO6 lvD lcO7 hb hc hf hz ha
  rintro V ⟨hE, vB, cO1, vS, cO2, vW, cO4, vU, cO5, vM, cO6, vD, cO7⟩
  have lvB := vB.lt
  have lcO1 := World.block_lt_of_cell? V _ cO1
  have lvS := vS.lt
  have lcO2 := World.block_lt_of_cell? V _ cO2
  have lvW := vW.lt
  have lcO4 := World.block_lt_of_cell? V _ cO4
  have lvU := vU.lt
  have lcO5 := World.block_lt_of_cell? V _ cO5
  have lvM := vM.lt
  have lcO6 := World.block_lt_of_cell? V _ cO6
  have lvD := vD.lt
  have lcO7 := World.block_lt_of_cell? V _ cO7
  refine (Count_v k6 _ vU (Ext.refl _) (HT.out.ext hE)).mono ?_
  rintro e w1 ⟨rfl, hb⟩
  have hc := hb.cellE; have hf := hb.frozenE; have hz := hb.size; have ha := alloc_keeps w1; (try simp only [World.size_alloc] at hc hf hz); (try simp only [World.size_setCell] at hc hf hz); (try simp only [World.size_drew] at hc hf hz)
  rw [exU_n]
  go_wp2_with fail
  refine calls_name (fun V => Ext w V ∧ VA V B1 0 exB ∧ V.cell? ⟨O1, 0, none⟩ = some (.slice (some ⟨B1, 0, none⟩) 24 k1) ∧ VA V B2 0 exS ∧ V.cell? ⟨O2, 0, none⟩ = some (.slice (some ⟨B2, 0, none⟩) 24 k2) ∧ VA V B5 0 exW ∧ V.cell? ⟨O4, 0, none⟩ = some (.slice (some ⟨B5, 0, none⟩) 24 k5) ∧ VA V B6 0 exU ∧ V.cell? ⟨O5, 0, none⟩ = some (.slice (some ⟨B6, 0, none⟩) 24 k6) ∧ VA V B7 0 exM ∧ V.cell? ⟨O6, 0, none⟩ = some (.slice (some ⟨B7, 0, none⟩) 24 k7) ∧ VA V B8 0 exD ∧ V.cell? ⟨O7, 0, none⟩ = some (.slice (some ⟨B8, 0, none⟩) 24 k8)) ⟨hE.trans (by first | exact hb | exact Ext.alloc hb _ | exact Ext.alloc (Ext.alloc hb _) _), vB.ext (by first | exact hb | exact Ext.alloc hb _ | exact Ext.alloc (Ext.alloc hb _) _), Ext.cell (by first | exact hb | exact Ext.alloc hb _ | exact Ext.alloc (Ext.alloc hb _) _) cO1, vS.ext (by first | exact hb | exact Ext.alloc hb _ | exact Ext.alloc (Ext.alloc hb _) _), Ext.cell (by first | exact hb | exact Ext.alloc hb _ | exact Ext.alloc (Ext.alloc hb _) _) cO2, vW.ext (by first | exact hb | exact Ext.alloc hb _ | exact Ext.alloc (Ext.alloc hb _) _), Ext.cell (by first | exact hb | exact Ext.alloc hb _ | exact Ext.alloc (Ext.alloc hb _) _) cO4, vU.ext (by first | exact hb | exact Ext.alloc hb _ | exact Ext.alloc (Ext.alloc hb _) _), Ext.cell (by first | exact hb | exact Ext.alloc hb _ | exact Ext.alloc (Ext.alloc hb _) _) cO5, vM.ext (by first | exact hb | exact Ext.alloc hb _ | exact Ext.alloc (Ext.alloc hb _) _), Ext.cell (by first | exact hb | exact Ext.alloc hb _ | exact Ext.alloc (Ext.alloc hb _) _) cO6, vD.ext (by first | exact hb | exact Ext.alloc hb _ | exact Ext.alloc (Ext.alloc hb _) _), Ext.cell (by first | exact hb | exact Ext.alloc hb _ | exact Ext.alloc (Ext.alloc hb _) _) cO7⟩ ?_
  clear hE vB cO1 vS cO2 vW cO4 vU cO5 vM cO6 vD cO7 lvB lcO1 lvS lcO2 lvW lcO4 lvU lcO5 lvM lcO6 lvD lcO7 hb hc hf hz ha
  rintro V ⟨hE, vB, cO1, vS, cO2, vW, cO4, vU, cO5, vM, cO6, vD, cO7⟩
  have lvB := vB.lt
  have lcO1 := World.block_lt_of_cell? V _ cO1
  have lvS := vS.lt
  have lcO2 := World.block_lt_of_cell? V _ cO2
  have lvW := vW.lt
  have lcO4 := World.block_lt_of_cell? V _ cO4
  have lvU := vU.lt
  have lcO5 := World.block_lt_of_cell? V _ cO5
  have lvM := vM.lt
  have lcO6 := World.block_lt_of_cell? V _ cO6
  have lvD := vD.lt
  have lcO7 := World.block_lt_of_cell? V _ cO7
  refine (Count_v k7 _ vM (Ext.refl _) (HT.out.ext hE)).mono ?_
  rintro e w1 ⟨rfl, hb⟩
  have hc := hb.cellE; have hf := hb.frozenE; have hz := hb.size; have ha := alloc_keeps w1; (try simp only [World.size_alloc] at hc hf hz); (try simp only [World.size_setCell] at hc hf hz); (try simp only [World.size_drew] at hc hf hz)
  rw [exM_n]
  go_wp2_with fail
  refine calls_name (fun V => Ext w V ∧ VA V B1 0 exB ∧ V.cell? ⟨O1, 0, none⟩ = some (.slice (some ⟨B1, 0, none⟩) 24 k1) ∧ VA V B2 0 exS ∧ V.cell? ⟨O2, 0, none⟩ = some (.slice (some ⟨B2, 0, none⟩) 24 k2) ∧ VA V B5 0 exW ∧ V.cell? ⟨O4, 0, none⟩ = some (.slice (some ⟨B5, 0, none⟩) 24 k5) ∧ VA V B6 0 exU ∧ V.cell? ⟨O5, 0, none⟩ = some (.slice (some ⟨B6, 0, none⟩) 24 k6) ∧ VA V B7 0 exM ∧ V.cell? ⟨O6, 0, none⟩ = some (.slice (some ⟨B7, 0, none⟩) 24 k7) ∧ VA V B8 0 exD ∧ V.cell? ⟨O7, 0, none⟩ = some (.slice (some ⟨B8, 0, none⟩) 24 k8)) ⟨hE.trans (by first | exact hb | exact Ext.alloc hb _ | exact Ext.alloc (Ext.alloc hb _) _), vB.ext (by first | exact hb | exact Ext.alloc hb _ | exact Ext.alloc (Ext.alloc hb _) _), Ext.cell (by first | exact hb | exact Ext.alloc hb _ | exact Ext.alloc (Ext.alloc hb _) _) cO1, vS.ext (by first | exact hb | exact Ext.alloc hb _ | exact Ext.alloc (Ext.alloc hb _) _), Ext.cell (by first | exact hb | exact Ext.alloc hb _ | exact Ext.alloc (Ext.alloc hb _) _) cO2, vW.ext (by first | exact hb | exact Ext.alloc hb _ | exact Ext.alloc (Ext.alloc hb _) _), Ext.cell (by first | exact hb | exact Ext.alloc hb _ | exact Ext.alloc (Ext.alloc hb _) _) cO4, vU.ext (by first | exact hb | exact Ext.alloc hb _ | exact Ext.alloc (Ext.alloc hb _) _), Ext.cell (by first | exact hb | exact Ext.alloc hb _ | exact Ext.alloc (Ext.alloc hb _) _) cO5, vM.ext (by first | exact hb | exact Ext.alloc hb _ | exact Ext.alloc (Ext.alloc hb _) _), Ext.cell (by first | exact hb | exact Ext.alloc hb _ | exact Ext.alloc (Ext.alloc hb _) _) cO6, vD.ext (by first | exact hb | exact Ext.alloc hb _ | exact Ext.alloc (Ext.alloc hb _) _), Ext.cell (by first | exact hb | exact Ext.alloc hb _ | exact Ext.alloc (Ext.alloc hb _) _) cO7⟩ ?_
  clear hE vB cO1 vS cO2 vW cO4 vU cO5 vM cO6 vD cO7 lvB lcO1 lvS lcO2 lvW lcO4 lvU lcO5 lvM lcO6 lvD lcO7 hb hc hf hz ha
  rintro V ⟨hE, vB, cO1, vS, cO2, vW, cO4, vU, cO5, vM, cO6, vD, cO7⟩
  have lvB := vB.lt
  have lcO1 := World.block_lt_of_cell? V _ cO1
  have lvS := vS.lt
  have lcO2 := World.block_lt_of_cell? V _ cO2
  have lvW := vW.lt
  have lcO4 := World.block_lt_of_cell? V _ cO4
  have lvU := vU.lt
  have lcO5 := World.block_lt_of_cell? V _ cO5
  have lvM := vM.lt
  have lcO6 := World.block_lt_of_cell? V _ cO6
  have lvD := vD.lt
  have lcO7 := World.block_lt_of_cell? V _ cO7
  refine (Count_v k8 _ vD (Ext.refl _) (HT.out.ext hE)).mono ?_
  rintro e w1 ⟨rfl, hb⟩
  have hc := hb.cellE; have hf := hb.frozenE; have hz := hb.size; have ha := alloc_keeps w1; (try simp only [World.size_alloc] at hc hf hz); (try simp only [World.size_setCell] at hc hf hz); (try simp only [World.size_drew] at hc hf hz)
  rw [exD_n]
  go_wp2_with fail
  refine calls_name (fun V => Ext w V ∧ VA V B1 0 exB ∧ V.cell? ⟨O1, 0, none⟩ = some (.slice (some ⟨B1, 0, none⟩) 24 k1) ∧ VA V B2 0 exS ∧ V.cell? ⟨O2, 0, none⟩ = some (.slice (some ⟨B2, 0, none⟩) 24 k2) ∧ VA V B5 0 exW ∧ V.cell? ⟨O4, 0, none⟩ = some (.slice (some ⟨B5, 0, none⟩) 24 k5) ∧ VA V B6 0 exU ∧ V.cell? ⟨O5, 0, none⟩ = some (.slice (some ⟨B6, 0, none⟩) 24 k6) ∧ VA V B7 0 exM ∧ V.cell? ⟨O6, 0, none⟩ = some (.slice (some ⟨B7, 0, none⟩) 24 k7) ∧ VA V B8 0 exD ∧ V.cell? ⟨O7, 0, none⟩ = some (.slice (some ⟨B8, 0, none⟩) 24 k8)) ⟨hE.trans (by first | exact hb | exact Ext.alloc hb _ | exact Ext.alloc (Ext.alloc hb _) _), vB.ext (by first | exact hb | exact Ext.alloc hb _ | exact Ext.alloc (Ext.alloc hb _) _), Ext.cell (by first | exact hb | exact Ext.alloc hb _ | exact Ext.alloc (Ext.alloc hb _) _) cO1, vS.ext (by first | exact hb | exact Ext.alloc hb _ | exact Ext.alloc (Ext.alloc hb _) _), Ext.cell (by first | exact hb | exact Ext.alloc hb _ | exact Ext.alloc (Ext.alloc hb _) _) cO2, vW.ext (by first | exact hb | exact Ext.alloc hb _ | exact Ext.alloc (Ext.alloc hb _) _), Ext.cell (by first | exact hb | exact Ext.alloc hb _ | exact Ext.alloc (Ext.alloc hb _) _) cO4, vU.ext (by first | exact hb | exact Ext.alloc hb _ | exact Ext.alloc (Ext.alloc hb _) _), Ext.cell (by first | exact hb | exact Ext.alloc hb _ | exact Ext.alloc (Ext.alloc hb _) _) cO5, vM.ext (by first | exact hb | exact Ext.alloc hb _ | exact Ext.alloc (Ext.alloc hb _) _), Ext.cell (by first | exact hb | exact Ext.alloc hb _ | exact Ext.alloc (Ext.alloc hb _) _) cO6, vD.ext (by first | exact hb | exact Ext.alloc hb _ | exact Ext.alloc (Ext.alloc hb _) _), Ext.cell (by first | exact hb | exact Ext.alloc hb _ | exact Ext.alloc (Ext.alloc hb _) _) cO7⟩ ?_
  clear hE vB cO1 vS cO2 vW cO4 vU cO5 vM cO6 vD cO7 lvB lcO1 lvS lcO2 lvW lcO4 lvU lcO5 lvM lcO6 lvD lcO7 hb hc hf hz ha
  rintro V ⟨hE, vB, cO1, vS, cO2, vW, cO4, vU, cO5, vM, cO6, vD, cO7⟩
  have lvB := vB.lt
  have lcO1 := World.block_lt_of_cell? V _ cO1
  have lvS := vS.lt
  have lcO2 := World.block_lt_of_cell? V _ cO2
  have lvW := vW.lt
  have lcO4 := World.block_lt_of_cell? V _ cO4
  have lvU := vU.lt
  have lcO5 := World.block_lt_of_cell? V _ cO5
  have lvM := vM.lt
  have lcO6 := World.block_lt_of_cell? V _ cO6
  have lvD := vD.lt
  have lcO7 := World.block_lt_of_cell? V _ cO7
  refine (Cells_v k1 _ vB (Ext.refl _) (HT.out.ext hE)).mono ?_
  rintro e w1 ⟨a9, k9, rfl, hcs, hb⟩
  have hc := hb.cellE; have hf := hb.frozenE; have hz := hb.size; have ha := alloc_keeps w1; (try simp only [World.size_alloc] at hc hf hz); (try simp only [World.size_setCell] at hc hf hz); (try simp only [World.size_drew] at hc hf hz)
  rw [exB_n]
  clear hcs
  go_wp2_with fail
  refine calls_name (fun V => Ext w V ∧ VA V B1 0 exB ∧ V.cell? ⟨O1, 0, none⟩ = some (.slice (some ⟨B1, 0, none⟩) 24 k1) ∧ VA V B2 0 exS ∧ V.cell? ⟨O2, 0, none⟩ = some (.slice (some ⟨B2, 0, none⟩) 24 k2) ∧ VA V B6 0 exU ∧ V.cell? ⟨O5, 0, none⟩ = some (.slice (some ⟨B6, 0, none⟩) 24 k6)) ⟨hE.trans (by first | exact hb | exact Ext.alloc hb _ | exact Ext.alloc (Ext.alloc hb _) _), vB.ext (by first | exact hb | exact Ext.alloc hb _ | exact Ext.alloc (Ext.alloc hb _) _), Ext.cell (by first | exact hb | exact Ext.alloc hb _ | exact Ext.alloc (Ext.alloc hb _) _) cO1, vS.ext (by first | exact hb | exact Ext.alloc hb _ | exact Ext.alloc (Ext.alloc hb _) _), Ext.cell (by first | exact hb | exact Ext.alloc hb _ | exact Ext.alloc (Ext.alloc hb _) _) cO2, vU.ext (by first | exact hb | exact Ext.alloc hb _ | exact Ext.alloc (Ext.alloc hb _) _), Ext.cell (by first | exact hb | exact Ext.alloc hb _ | exact Ext.alloc (Ext.alloc hb _) _) cO5⟩ ?_
  clear hE vB cO1 vS cO2 vW cO4 vU cO5 vM cO6 vD cO7 lvB lcO1 lvS lcO2 lvW lcO4 lvU lcO5 lvM lcO6 lvD lcO7 hb hc hf hz ha
  rintro V ⟨hE, vB, cO1, vS, cO2, vU, cO5⟩
  have lvB := vB.lt
  have lcO1 := World.block_lt_of_cell? V _ cO1
  have lvS := vS.lt
  have lcO2 := World.block_lt_of_cell? V _ cO2
  have lvU := vU.lt
  have lcO5 := World.block_lt_of_cell? V _ cO5
  refine (Has_y B1 0 k1 exB 0 4 _ vB.1 vB.2 (by decide) (by decide)).mono ?_
  rintro e w1 ⟨rfl, hb⟩
  have hc := hb.cellE; have hf := hb.frozenE; have hz := hb.size; have ha := alloc_keeps w1; (try simp only [World.size_alloc] at hc hf hz); (try simp only [World.size_setCell] at hc hf hz); (try simp only [World.size_drew] at hc hf hz)
  rw [ex_h1]
  go_wp2_with fail
  refine calls_name (fun V => Ext w V ∧ VA V B1 0 exB ∧ V.cell? ⟨O1, 0, none⟩ = some (.slice (some ⟨B1, 0, none⟩) 24 k1) ∧ VA V B2 0 exS ∧ V.cell? ⟨O2, 0, none⟩ = some (.slice (some ⟨B2, 0, none⟩) 24 k2) ∧ VA V B6 0 exU ∧ V.cell? ⟨O5, 0, none⟩ = some (.slice (some ⟨B6, 0, none⟩) 24 k6)) ⟨hE.trans (by first | exact hb | exact Ext.alloc hb _ | exact Ext.alloc (Ext.alloc hb _) _), vB.ext (by first | exact hb | exact Ext.alloc hb _ | exact Ext.alloc (Ext.alloc hb _) _), Ext.cell (by first | exact hb | exact Ext.alloc hb _ | exact Ext.alloc (Ext.alloc hb _) _) cO1, vS.ext (by first | exact hb | exact Ext.alloc hb _ | exact Ext.alloc (Ext.alloc hb _) _), Ext.cell (by first | exact hb | exact Ext.alloc hb _ | exact Ext.alloc (Ext.alloc hb _) _) cO2, vU.ext (by first | exact hb | exact Ext.alloc hb _ | exact Ext.alloc (Ext.alloc hb _) _), Ext.cell (by first | exact hb | exact Ext.alloc hb _ | exact Ext.alloc (Ext.alloc hb _) _) cO5⟩ ?_
  clear hE vB cO1 vS cO2 vU cO5 lvB lcO1 lvS lcO2 lvU lcO5 hb hc hf hz ha
  rintro V ⟨hE, vB, cO1, vS, cO2, vU, cO5⟩
  have lvB := vB.lt
  have lcO1 := World.block_lt_of_cell? V _ cO1
  have lvS := vS.lt
  have lcO2 := World.block_lt_of_cell? V _ cO2
  have lvU := vU.lt
  have lcO5 := World.block_lt_of_cell? V _ cO5
  refine (Has_y B1 0 k1 exB 2 4 _ vB.1 vB.2 (by decide) (by decide)).mono ?_
  rintro e w1 ⟨rfl, hb⟩
  have hc := hb.cellE; have hf := hb.frozenE; have hz := hb.size; have ha := alloc_keeps w1; (try simp only [World.size_alloc] at hc hf hz); (try simp only [World.size_setCell] at hc hf hz); (try simp only [World.size_drew] at hc hf hz)
  rw [ex_h2]
  go_wp2_with fail
  refine calls_name (fun V => Ext w V ∧ VA V B1 0 exB ∧ V.cell? ⟨O1, 0, none⟩ = some (.slice (some ⟨B1, 0, none⟩) 24 k1) ∧ VA V B2 0 exS ∧ V.cell? ⟨O2, 0, none⟩ = some (.slice (some ⟨B2, 0, none⟩) 24 k2) ∧ VA V B6 0 exU ∧ V.cell? ⟨O5, 0, none⟩ = some (.slice (some ⟨B6, 0, none⟩) 24 k6)) ⟨hE.trans (by first | exact hb | exact Ext.alloc hb _ | exact Ext.alloc (Ext.alloc hb _) _), vB.ext (by first | exact hb | exact Ext.alloc hb _ | exact Ext.alloc (Ext.alloc hb _) _), Ext.cell (by first | exact hb | exact Ext.alloc hb _ | exact Ext.alloc (Ext.alloc hb _) _) cO1, vS.ext (by first | exact hb | exact Ext.alloc hb _ | exact Ext.alloc (Ext.alloc hb _) _), Ext.cell (by first | exact hb | exact Ext.alloc hb _ | exact Ext.alloc (Ext.alloc hb _) _) cO2, vU.ext (by first | exact hb | exact Ext.alloc hb _ | exact Ext.alloc (Ext.alloc hb _) _), Ext.cell (by first | exact hb | exact Ext.alloc hb _ | exact Ext.alloc (Ext.alloc hb _) _) cO5⟩ ?_
  clear hE vB cO1 vS cO2 vU cO5 lvB lcO1 lvS lcO2 lvU lcO5 hb hc hf hz ha
  rintro V ⟨hE, vB, cO1, vS, cO2, vU, cO5⟩
  have lvB := vB.lt
  have lcO1 := World.block_lt_of_cell? V _ cO1
  have lvS := vS.lt
  have lcO2 := World.block_lt_of_cell? V _ cO2
  have lvU := vU.lt
  have lcO5 := World.block_lt_of_cell? V _ cO5
  refine (Contains_v k6 k1 _ vU (Ext.refl _) vB (Ext.refl _)).mono ?_
  rintro e w1 ⟨rfl, hb⟩
  have hc := hb.cellE; have hf := hb.frozenE; have hz := hb.size; have ha := alloc_keeps w1; (try simp only [World.size_alloc] at hc hf hz); (try simp only [World.size_setCell] at hc hf hz); (try simp only [World.size_drew] at hc hf hz)
  rw [ex_c1]
  go_wp2_with fail
  refine calls_name (fun V => Ext w V ∧ VA V B1 0 exB ∧ V.cell? ⟨O1, 0, none⟩ = some (.slice (some ⟨B1, 0, none⟩) 24 k1) ∧ VA V B2 0 exS ∧ V.cell? ⟨O2, 0, none⟩ = some (.slice (some ⟨B2, 0, none⟩) 24 k2) ∧ VA V B6 0 exU ∧ V.cell? ⟨O5, 0, none⟩ = some (.slice (some ⟨B6, 0, none⟩) 24 k6)) ⟨hE.trans (by first | exact hb | exact Ext.alloc hb _ | exact Ext.alloc (Ext.alloc hb _) _), vB.ext (by first | exact hb | exact Ext.alloc hb _ | exact Ext.alloc (Ext.alloc hb _) _), Ext.cell (by first | exact hb | exact Ext.alloc hb _ | exact Ext.alloc (Ext.alloc hb _) _) cO1, vS.ext (by first | exact hb | exact Ext.alloc hb _ | exact Ext.alloc (Ext.alloc hb _) _), Ext.cell (by first | exact hb | exact Ext.alloc hb _ | exact Ext.alloc (Ext.alloc hb _) _) cO2, vU.ext (by first | exact hb | exact Ext.alloc hb _ | exact Ext.alloc (Ext.alloc hb _) _), Ext.cell (by first | exact hb | exact Ext.alloc hb _ | exact Ext.alloc (Ext.alloc hb _) _) cO5⟩ ?_
  clear hE vB cO1 vS cO2 vU cO5 lvB lcO1 lvS lcO2 lvU lcO5 hb hc hf hz ha
  rintro V ⟨hE, vB, cO1, vS, cO2, vU, cO5⟩
  have lvB := vB.lt
  have lcO1 := World.block_lt_of_cell? V _ cO1
  have lvS := vS.lt
  have lcO2 := World.block_lt_of_cell? V _ cO2
  have lvU := vU.lt
  have lcO5 := World.block_lt_of_cell? V _ cO5
  refine (Contains_v k1 k6 _ vB (Ext.refl _) vU (Ext.refl _)).mono ?_
  rintro e w1 ⟨rfl, hb⟩
  have hc := hb.cellE; have hf := hb.frozenE; have hz := hb.size; have ha := alloc_keeps w1; (try simp only [World.size_alloc] at hc hf hz); (try simp only [World.size_setCell] at hc hf hz); (try simp only [World.size_drew] at hc hf hz)
  rw [ex_c2]
  go_wp2_with fail
  refine calls_name (fun V => Ext w V ∧ VA V B1 0 exB ∧ V.cell? ⟨O1, 0, none⟩ = some (.slice (some ⟨B1, 0, none⟩) 24 k1) ∧ VA V B2 0 exS ∧ V.cell? ⟨O2, 0, none⟩ = some (.slice (some ⟨B2, 0, none⟩) 24 k2) ∧ VA V B6 0 exU ∧ V.cell? ⟨O5, 0, none⟩ = some (.slice (some ⟨B6, 0, none⟩) 24 k6)) ⟨hE.trans (by first | exact hb | exact Ext.alloc hb _ | exact Ext.alloc (Ext.alloc hb _) _), vB.ext (by first | exact hb | exact Ext.alloc hb _ | exact Ext.alloc (Ext.alloc hb _) _), Ext.cell (by first | exact hb | exact Ext.alloc hb _ | exact Ext.alloc (Ext.alloc hb _) _) cO1, vS.ext (by first | exact hb | exact Ext.alloc hb _ | exact Ext.alloc (Ext.alloc hb _) _), Ext.cell (by first | exact hb | exact Ext.alloc hb _ | exact Ext.alloc (Ext.alloc hb _) _) cO2, vU.ext (by first | exact hb | exact Ext.alloc hb _ | exact Ext.alloc (Ext.alloc hb _) _), Ext.cell (by first | exact hb | exact Ext.alloc hb _ | exact Ext.alloc (Ext.alloc hb _) _) cO5⟩ ?_
  clear hE vB cO1 vS cO2 vU cO5 lvB lcO1 lvS lcO2 lvU lcO5 hb hc hf hz ha
  rintro V ⟨hE, vB, cO1, vS, cO2, vU, cO5⟩
  have lvB := vB.lt
  have lcO1 := World.block_lt_of_cell? V _ cO1
  have lvS := vS.lt
  have lcO2 := World.block_lt_of_cell? V _ cO2
  have lvU := vU.lt
  have lcO5 := World.block_lt_of_cell? V _ cO5
  refine (Valid_v _ exB 24 k1 _ vB.aa.1 vB.aa.2.1 vB.aa.2.2.1 vB.2).mono ?_
  rintro e w1 ⟨rfl, hb⟩
  have hc := hb.cellE; have hf := hb.frozenE; have hz := hb.size; have ha := alloc_keeps w1; (try simp only [World.size_alloc] at hc hf hz); (try simp only [World.size_setCell] at hc hf hz); (try simp only [World.size_drew] at hc hf hz)
  go_wp2_with fail
  refine calls_name (fun V => Ext w V ∧ VA V B1 0 exB ∧ V.cell? ⟨O1, 0, none⟩ = some (.slice (some ⟨B1, 0, none⟩) 24 k1) ∧ VA V B2 0 exS ∧ V.cell? ⟨O2, 0, none⟩ = some (.slice (some ⟨B2, 0, none⟩) 24 k2) ∧ VA V B6 0 exU ∧ V.cell? ⟨O5, 0, none⟩ = some (.slice (some ⟨B6, 0, none⟩) 24 k6)) ⟨hE.trans (by first | exact hb | exact Ext.alloc hb _ | exact Ext.alloc (Ext.alloc hb _) _), vB.ext (by first | exact hb | exact Ext.alloc hb _ | exact Ext.alloc (Ext.alloc hb _) _), Ext.cell (by first | exact hb | exact Ext.alloc hb _ | exact Ext.alloc (Ext.alloc hb _) _) cO1, vS.ext (by first | exact hb | exact Ext.alloc hb _ | exact Ext.alloc (Ext.alloc hb _) _), Ext.cell (by first | exact hb | exact Ext.alloc hb _ | exact Ext.alloc (Ext.alloc hb _) _) cO2, vU.ext (by first | exact hb | exact Ext.alloc hb _ | exact Ext.alloc (Ext.alloc hb _) _), Ext.cell (by first | exact hb | exact Ext.alloc hb _ | exact Ext.alloc (Ext.alloc hb _) _) cO5⟩ ?_
  clear hE vB cO1 vS cO2 vU cO5 lvB lcO1 lvS lcO2 lvU lcO5 hb hc hf hz ha
  rintro V ⟨hE, vB, cO1, vS, cO2, vU, cO5⟩
  have lvB := vB.lt
  have lcO1 := World.block_lt_of_cell? V _ cO1
  have lvS := vS.lt
  have lcO2 := World.block_lt_of_cell? V _ cO2
  have lvU := vU.lt
  have lcO5 := World.block_lt_of_cell? V _ cO5
  refine (Valid_v (v := false) none [] 0 0 _ (.inl rfl) rfl (by decide) rfl).mono ?_
  rintro e w1 ⟨rfl, hb⟩
  have hc := hb.cellE; have hf := hb.frozenE; have hz := hb.size; have ha := alloc_keeps w1; (try simp only [World.size_alloc] at hc hf hz); (try simp only [World.size_setCell] at hc hf hz); (try simp only [World.size_drew] at hc hf hz)
  go_wp2_with fail
  refine calls_name (fun V => Ext w V ∧ VA V B1 0 exB ∧ V.cell? ⟨O1, 0, none⟩ = some (.slice (some ⟨B1, 0, none⟩) 24 k1) ∧ VA V B2 0 exS ∧ V.cell? ⟨O2, 0, none⟩ = some (.slice (some ⟨B2, 0, none⟩) 24 k2) ∧ VA V B6 0 exU ∧ V.cell? ⟨O5, 0, none⟩ = some (.slice (some ⟨B6, 0, none⟩) 24 k6)) ⟨hE.trans (by first | exact hb | exact Ext.alloc hb _ | exact Ext.alloc (Ext.alloc hb _) _), vB.ext (by first | exact hb | exact Ext.alloc hb _ | exact Ext.alloc (Ext.alloc hb _) _), Ext.cell (by first | exact hb | exact Ext.alloc hb _ | exact Ext.alloc (Ext.alloc hb _) _) cO1, vS.ext (by first | exact hb | exact Ext.alloc hb _ | exact Ext.alloc (Ext.alloc hb _) _), Ext.cell (by first | exact hb | exact Ext.alloc hb _ | exact Ext.alloc (Ext.alloc hb _) _) cO2, vU.ext (by first | exact hb | exact Ext.alloc hb _ | exact Ext.alloc (Ext.alloc hb _) _), Ext.cell (by first | exact hb | exact Ext.alloc hb _ | exact Ext.alloc (Ext.alloc hb _) _) cO5⟩ ?_
  clear hE vB cO1 vS cO2 vU cO5 lvB lcO1 lvS lcO2 lvU lcO5 hb hc hf hz ha
  rintro V ⟨hE, vB, cO1, vS, cO2, vU, cO5⟩
  have lvB := vB.lt
  have lcO1 := World.block_lt_of_cell? V _ cO1
  have lvS := vS.lt
  have lcO2 := World.block_lt_of_cell? V _ cO2
  have lvU := vU.lt
  have lcO5 := World.block_lt_of_cell? V _ cO5
  refine (ValidCell_v (v := true) 0 0 _ (by decide)).mono ?_
  rintro e w1 ⟨rfl, hb⟩
  have hc := hb.cellE; have hf := hb.frozenE; have hz := hb.size; have ha := alloc_keeps w1; (try simp only [World.size_alloc] at hc hf hz); (try simp only [World.size_setCell] at hc hf hz); (try simp only [World.size_drew] at hc hf hz)
  go_wp2_with fail
  refine calls_name (fun V => Ext w V ∧ VA V B1 0 exB ∧ V.cell? ⟨O1, 0, none⟩ = some (.slice (some ⟨B1, 0, none⟩) 24 k1) ∧ VA V B2 0 exS ∧ V.cell? ⟨O2, 0, none⟩ = some (.slice (some ⟨B2, 0, none⟩) 24 k2) ∧ VA V B6 0 exU ∧ V.cell? ⟨O5, 0, none⟩ = some (.slice (some ⟨B6, 0, none⟩) 24 k6)) ⟨hE.trans (by first | exact hb | exact Ext.alloc hb _ | exact Ext.alloc (Ext.alloc hb _) _), vB.ext (by first | exact hb | exact Ext.alloc hb _ | exact Ext.alloc (Ext.alloc hb _) _), Ext.cell (by first | exact hb | exact Ext.alloc hb _ | exact Ext.alloc (Ext.alloc hb _) _) cO1, vS.ext (by first | exact hb | exact Ext.alloc hb _ | exact Ext.alloc (Ext.alloc hb _) _), Ext.cell (by first | exact hb | exact Ext.alloc hb _ | exact Ext.alloc (Ext.alloc hb _) _) cO2, vU.ext (by first | exact hb | exact Ext.alloc hb _ | exact Ext.alloc (Ext.alloc hb _) _), Ext.cell (by first | exact hb | exact Ext.alloc hb _ | exact Ext.alloc (Ext.alloc hb _) _) cO5⟩ ?_
  clear hE vB cO1 vS cO2 vU cO5 lvB lcO1 lvS lcO2 lvU lcO5 hb hc hf hz ha
  rintro V ⟨hE, vB, cO1, vS, cO2, vU, cO5⟩
  have lvB := vB.lt
  have lcO1 := World.block_lt_of_cell? V _ cO1
  have lvS := vS.lt
  have lcO2 := World.block_lt_of_cell? V _ cO2
  have lvU := vU.lt
  have lcO5 := World.block_lt_of_cell? V _ cO5
  refine (ValidCell_v (v := false) (-1) 0 _ (by decide)).mono ?_
  rintro e w1 ⟨rfl, hb⟩
  have hc := hb.cellE; have hf := hb.frozenE; have hz := hb.size; have ha := alloc_keeps w1; (try simp only [World.size_alloc] at hc hf hz); (try simp only [World.size_setCell] at hc hf hz); (try simp only [World.size_drew] at hc hf hz)
  go_wp2_with fail
  refine calls_name (fun V => Ext w V ∧ VA V B1 0 exB ∧ V.cell? ⟨O1, 0, none⟩ = some (.slice (some ⟨B1, 0, none⟩) 24 k1) ∧ VA V B2 0 exS ∧ V.cell? ⟨O2, 0, none⟩ = some (.slice (some ⟨B2, 0, none⟩) 24 k2) ∧ VA V B6 0 exU ∧ V.cell? ⟨O5, 0, none⟩ = some (.slice (some ⟨B6, 0, none⟩) 24 k6)) ⟨hE.trans (by first | exact hb | exact Ext.alloc hb _ | exact Ext.alloc (Ext.alloc hb _) _), vB.ext (by first | exact hb | exact Ext.alloc hb _ | exact Ext.alloc (Ext.alloc hb _) _), Ext.cell (by first | exact hb | exact Ext.alloc hb _ | exact Ext.alloc (Ext.alloc hb _) _) cO1, vS.ext (by first | exact hb | exact Ext.alloc hb _ | exact Ext.alloc (Ext.alloc hb _) _), Ext.cell (by first | exact hb | exact Ext.alloc hb _ | exact Ext.alloc (Ext.alloc hb _) _) cO2, vU.ext (by first | exact hb | exact Ext.alloc hb _ | exact Ext.alloc (Ext.alloc hb _) _), Ext.cell (by first | exact hb | exact Ext.alloc hb _ | exact Ext.alloc (Ext.alloc hb _) _) cO5⟩ ?_
  clear hE vB cO1 vS cO2 vU cO5 lvB lcO1 lvS lcO2 lvU lcO5 hb hc hf hz ha
  rintro V ⟨hE, vB, cO1, vS, cO2, vU, cO5⟩
  have lvB := vB.lt
  have lcO1 := World.block_lt_of_cell? V _ cO1
  have lvS := vS.lt
  have lcO2 := World.block_lt_of_cell? V _ cO2
  have lvU := vU.lt
  have lcO5 := World.block_lt_of_cell? V _ cO5
  refine (Same_c k1 k1 _ vB.aa (Ext.refl _) vB.aa (Ext.refl _)).mono ?_
  rintro e w1 ⟨rfl, hb⟩
  have hc := hb.cellE; have hf := hb.frozenE; have hz := hb.size; have ha := alloc_keeps w1; (try simp only [World.size_alloc] at hc hf hz); (try simp only [World.size_setCell] at hc hf hz); (try simp only [World.size_drew] at hc hf hz)
  rw [decide_eq_true (rfl : exB = exB)]
  go_wp2_with fail
  refine calls_name (fun V => Ext w V ∧ VA V B1 0 exB ∧ V.cell? ⟨O1, 0, none⟩ = some (.slice (some ⟨B1, 0, none⟩) 24 k1) ∧ VA V B2 0 exS ∧ V.cell? ⟨O2, 0, none⟩ = some (.slice (some ⟨B2, 0, none⟩) 24 k2) ∧ VA V B6 0 exU ∧ V.cell? ⟨O5, 0, none⟩ = some (.slice (some ⟨B6, 0, none⟩) 24 k6)) ⟨hE.trans (by first | exact hb | exact Ext.alloc hb _ | exact Ext.alloc (Ext.alloc hb _) _), vB.ext (by first | exact hb | exact Ext.alloc hb _ | exact Ext.alloc (Ext.alloc hb _) _), Ext.cell (by first | exact hb | exact Ext.alloc hb _ | exact Ext.alloc (Ext.alloc hb _) _) cO1, vS.ext (by first | exact hb | exact Ext.alloc hb _ | exact Ext.alloc (Ext.alloc hb _) _), Ext.cell (by first | exact hb | exact Ext.alloc hb _ | exact Ext.alloc (Ext.alloc hb _) _) cO2, vU.ext (by first | exact hb | exact Ext.alloc hb _ | exact Ext.alloc (Ext.alloc hb _) _), Ext.cell (by first | exact hb | exact Ext.alloc hb _ | exact Ext.alloc (Ext.alloc hb _) _) cO5⟩ ?_
  clear hE vB cO1 vS cO2 vU cO5 lvB lcO1 lvS lcO2 lvU lcO5 hb hc hf hz ha
  rintro V ⟨hE, vB, cO1, vS, cO2, vU, cO5⟩
  have lvB := vB.lt
  have lcO1 := World.block_lt_of_cell? V _ cO1
  have lvS := vS.lt
  have lcO2 := World.block_lt_of_cell? V _ cO2
  have lvU := vU.lt
  have lcO5 := World.block_lt_of_cell? V _ cO5
  refine (Same_c k1 k2 _ vB.aa (Ext.refl _) vS.aa (Ext.refl _)).mono ?_
  rintro e w1 ⟨rfl, hb⟩
  have hc := hb.cellE; have hf := hb.frozenE; have hz := hb.size; have ha := alloc_keeps w1; (try simp only [World.size_alloc] at hc hf hz); (try simp only [World.size_setCell] at hc hf hz); (try simp only [World.size_drew] at hc hf hz)
  rw [ex_ne]
  go_wp2_with fail
  go_ret
  exact ⟨rfl, by (repeat' (first | (with_reducible assumption) | (with_reducible exact Ext.refl _) | (with_reducible refine Ext.alloc ?_ _) | (with_reducible refine Ext.drew ?_) | (with_reducible refine Ext.drewN ?_ _) | (with_reducible refine Ext.setCell ?_ ?_ _) | (with_reducible refine Ext.trans ?_ (by assumption)) | go_size))⟩

end Go.Proofs.YtnfknekbbdfdfaaDoor

/- pick, in chapter 5's laws. -/
namespace Go.Proofs.YtnfknekbbdfdfaaDoor
open Go.RowKit

theorem pick_c (c n : Int) (w : World) (hc : IsI c) (h0 : 0 < n) (h1 : n ≤ 100000000) : Calls Tryd.prog 12 #[.int .i64 c, .int .i64 n] w fun e w' => e = .returned (.int .i64 (pickF c n)) ∧ w = w' := by
  obtain ⟨h2, h3⟩ := hc
  by_cases h : c < 0
  · go_enter Tryd.func12, Tryd.ntmps12
    go_wp2
    go_ret
    exact ⟨ret_int (by rw [pickF_neg h, ← Int.neg_tmod, Int.tmod_eq_emod_of_nonneg (by omega)]), rfl⟩
  · have h' : 0 ≤ c := by omega
    go_enter Tryd.func12, Tryd.ntmps12
    go_wp2
    go_ret
    exact ⟨ret_int (by rw [pickF_pos h']), rfl⟩

theorem Has_v {w0 : World} {b o : Nat} (c : Nat) {l : List Int} {x y : Nat} (w : World) (h : VA w0 b o l) (hE : Ext w0 w) (hx : x < 48) (hy : y < 24) :
    Calls Tryd.prog 31 #[.agg #[.slice (some ⟨b, o, none⟩) 24 c], .agg #[.int .i64 (x : Int), .int .i64 (y : Int)]] w fun e w' => e = .returned (.bool (Globe.hasL l x y)) ∧ Ext w w' :=
  Has_y b o c l x y w (h.ext hE).1 h.2 hx hy
theorem Contains_r {w1 w2 : World} {b1 o1 b2 o2 : Nat} (c1 c2 : Nat) {l1 l2 : List Int} {r : Bool} (w : World) (h1 : VA w1 b1 o1 l1) (e1 : Ext w1 w) (h2 : VA w2 b2 o2 l2) (e2 : Ext w2 w) (hr : Globe.containsB l1 l2 = r) :
    Calls Tryd.prog 43 #[.agg #[.slice (some ⟨b1, o1, none⟩) 24 c1], .agg #[.slice (some ⟨b2, o2, none⟩) 24 c2]] w fun e w' => e = .returned (.bool r) ∧ Ext w w' := hr ▸ Contains_v c1 c2 w h1 e1 h2 e2
theorem rSame_r {w1 w2 : World} {b1 o1 b2 o2 : Nat} (c1 c2 : Nat) {l1 l2 : List Int} {r : Bool} (w : World) (h1 : VA w1 b1 o1 l1) (e1 : Ext w1 w) (h2 : VA w2 b2 o2 l2) (e2 : Ext w2 w) (hr : decide (l1 = l2) = r) :
    Calls Tryd.prog 21 #[.agg #[.slice (some ⟨b1, o1, none⟩) 24 c1], .agg #[.slice (some ⟨b2, o2, none⟩) 24 c2]] w fun e w' => e = .returned (.bool r) ∧ Ext w w' := hr ▸ rSame_c c1 c2 w h1.aa e1 h2.aa e2
theorem Has_r {w0 : World} {b o : Nat} (c : Nat) {l : List Int} {x y : Nat} {r : Bool} (w : World) (h : VA w0 b o l) (hE : Ext w0 w) (hx : x < 48) (hy : y < 24) (hr : Globe.hasL l x y = r) :
    Calls Tryd.prog 31 #[.agg #[.slice (some ⟨b, o, none⟩) 24 c], .agg #[.int .i64 (x : Int), .int .i64 (y : Int)]] w fun e w' => e = .returned (.bool r) ∧ Ext w w' := hr ▸ Has_v c w h hE hx hy
theorem Count_r {w0 : World} {b o : Nat} (c : Nat) {l : List Int} {n : Nat} (w : World) (h : VA w0 b o l) (hE : Ext w0 w) (hT : Tab w) (hn : (Globe.cellsTo l 24).length = n) :
    Calls Tryd.prog 24 #[.agg #[.slice (some ⟨b, o, none⟩) 24 c]] w fun e w' => e = .returned (.int .i64 (n : Int)) ∧ Ext w w' := hn ▸ Count_v c w h hE hT

end Go.Proofs.YtnfknekbbdfdfaaDoor

/- The cells of an area are ascending; the area of them, one after the other. Plain mathematics. -/
namespace Go.Proofs.YtnfknekbbdfdfaaDoor
namespace Globe

def before (p q : Nat × Nat) : Prop := p.2 < q.2 ∨ (p.2 = q.2 ∧ p.1 < q.1)
theorem all_sorted : ∀ n, (allCells n).Pairwise before
  | 0 => List.Pairwise.nil
  | n + 1 => by
    have ih := all_sorted n
    unfold allCells at ih ⊢
    rw [List.range_succ (n := n), List.flatMap_append, List.pairwise_append]
    refine ⟨ih, ?_, ?_⟩
    · simp only [List.flatMap_cons, List.flatMap_nil, List.append_nil]
      rw [List.pairwise_map]
      exact List.pairwise_lt_range.imp fun h => .inr ⟨rfl, h⟩
    · intro p hp q hq
      have h1 := (mem_all (n := n)).1 hp
      simp only [List.flatMap_cons, List.flatMap_nil, List.append_nil, List.mem_map, List.mem_range] at hq
      obtain ⟨x, _, rfl⟩ := hq
      exact .inl h1.2
theorem cells_sorted (l : List Int) (n : Nat) : (cellsTo l n).Pairwise before := by
  rw [cellsTo_filter]; exact (all_sorted n).filter _
theorem cells_before {l : List Int} {i j : Nat} {p q : Nat × Nat} (hij : i < j) (hp : (cellsTo l 24)[i]? = some p) (hq : (cellsTo l 24)[j]? = some q) : before p q := by
  obtain ⟨h1, rfl⟩ := List.getElem?_eq_some_iff.1 hp
  obtain ⟨h2, rfl⟩ := List.getElem?_eq_some_iff.1 hq
  exact List.pairwise_iff_getElem.1 (cells_sorted l 24) i j h1 h2 hij

/-- The area of some cells, one after the other. -/
def outTo (cs : List (Nat × Nat)) : List Int := cs.foldl (fun l p => putL l p.1 p.2) zeroL
theorem outTo_nil : outTo [] = zeroL := rfl
theorem outTo_snoc (cs : List (Nat × Nat)) (p : Nat × Nat) : outTo (cs ++ [p]) = putL (outTo cs) p.1 p.2 := by simp [outTo]
theorem outTo_spec : ∀ n (cs : List (Nat × Nat)), cs.length = n → (∀ p ∈ cs, p.1 < 48 ∧ p.2 < 24) → validL (outTo cs) = true ∧ ∀ x y, hasL (outTo cs) x y = decide ((x, y) ∈ cs)
  | 0, cs, hn, _ => by
    obtain rfl := List.length_eq_zero_iff.1 hn
    exact ⟨valid_zero, fun x y => by rw [outTo_nil, has_zero]; simp⟩
  | n + 1, cs, hn, h => by
    have hne : cs ≠ [] := by intro e; subst e; simp at hn
    obtain ⟨ds, p, rfl⟩ : ∃ ds p, cs = ds ++ [p] := ⟨_, _, (List.dropLast_concat_getLast hne).symm⟩
    have ih := outTo_spec n ds (by simpa using hn) (fun q hq => h q (by simp [hq]))
    have hp := h p (by simp)
    rw [outTo_snoc]
    refine ⟨valid_put ih.1 hp.1, fun x y => ?_⟩
    rw [has_put (by rw [len_of_valid ih.1]; exact hp.2), ih.2, Bool.eq_iff_iff]
    simp only [Bool.or_eq_true, decide_eq_true_eq, Bool.and_eq_true, List.mem_append, List.mem_singleton]
    constructor
    · rintro (h | ⟨rfl, rfl⟩)
      · exact .inl h
      · exact .inr rfl
    · rintro (h | h)
      · exact .inl h
      · exact .inr ⟨(congrArg Prod.fst h).symm, (congrArg Prod.snd h).symm⟩
theorem cells_in {l : List Int} {p : Nat × Nat} (h : p ∈ cellsTo l 24) : p.1 < 48 ∧ p.2 < 24 := ⟨(mem_cells.1 h).2.1, (mem_cells.1 h).1⟩
theorem take_in {l : List Int} (k : Nat) : ∀ p ∈ (cellsTo l 24).take k, p.1 < 48 ∧ p.2 < 24 := fun _ hp => cells_in (List.mem_of_mem_take hp)
theorem outTo_valid (l : List Int) (k : Nat) : validL (outTo ((cellsTo l 24).take k)) = true := (outTo_spec _ _ rfl (take_in k)).1
theorem outTo_all {l : List Int} (h : validL l = true) : outTo (cellsTo l 24) = l := by
  have s := outTo_spec _ (cellsTo l 24) rfl (fun p hp => cells_in hp)
  refine ext_has s.1 h fun x y hx hy => ?_
  rw [s.2, Bool.eq_iff_iff, decide_eq_true_eq, mem_cells]
  exact ⟨fun h => h.2.2, fun h => ⟨hy, hx, h⟩⟩
theorem outTo_new {l : List Int} {k : Nat} {p : Nat × Nat} (hp : (cellsTo l 24)[k]? = some p) : hasL (outTo ((cellsTo l 24).take k)) p.1 p.2 = false := by
  rw [(outTo_spec _ _ rfl (take_in k)).2]
  rw [decide_eq_false_iff_not]
  intro hm
  obtain ⟨i, hi, he⟩ := List.getElem_of_mem hm
  rw [List.length_take] at hi
  rw [List.getElem_take] at he
  have := cells_before (l := l) (i := i) (j := k) (by omega) (List.getElem?_eq_some_iff.2 ⟨by omega, he⟩) hp
  unfold before at this
  simp at this
theorem outTo_next {l : List Int} {k : Nat} {p : Nat × Nat} (hp : (cellsTo l 24)[k]? = some p) : outTo ((cellsTo l 24).take (k + 1)) = putL (outTo ((cellsTo l 24).take k)) p.1 p.2 := by
  obtain ⟨h1, rfl⟩ := List.getElem?_eq_some_iff.1 hp
  rw [List.take_succ_eq_append_getElem h1, outTo_snoc]

end Globe
end Go.Proofs.YtnfknekbbdfdfaaDoor
