/- Contracts of the reference of package globe: ValidCell, Valid, has, Cells, Count. -/
import Derived.Test.YtknlnmalaidaiaaDoorGK
import Derived.Test.YtknlnmalaidaiaaDoorR1
import Derived.Test.YtknlnmalaidaiaaDoorWA
import Derived.Test.YtknlnmalaidaiaaDoorW3
import Derived.OwnWalk
namespace Go.Proofs.YtknlnmalaidaiaaDoor
open Go.RowKit

theorem Ext.grownNone {w w' : World} (h : Ext w w') : w.grownBy w' none := ⟨h.os, h.tape, h.output, Below.size h, fun k hk _ => Below.block h k hk⟩
theorem own_ext {w w' : World} {base : Nat} {e : TypeId} {size : Nat} {v : Value} {n : Nat} {xs : List Value} (h : w.ownsRow base e size v n xs) (hE : Ext w w') : w'.ownsRow base e size v n xs :=
  h.kept hE.grownNone (by cases v.ownBlock <;> simp)
/-- What lies below a slice's own base is as it was. -/
theorem Ext.own {w0 w w' : World} {e : TypeId} {size : Nat} {v : Value} {n : Nat} {xs : List Value} (h : Ext w0 w) (hr : w.ownsRow w0.heap.size e size v n xs) (hg : w.grownBy w' v.ownBlock) : Ext w0 w' :=
  Below.grown h hg h.size (fun k e => (hr.lt k e).1)

theorem has_nil {l : List Int} {n : Nat} (hn : l.length = n) (h24 : n ≠ 24) : Globe.validL l = false := by
  rw [Bool.eq_false_iff]; intro h; exact h24 (by rw [← hn]; exact Globe.len_of_valid h)
theorem bad_row {l : List Int} {k : Nat} (hk : k < l.length) (h : Globe.rowOk (Globe.nth l k) = false) : Globe.validL l = false := by
  rw [Bool.eq_false_iff]; intro hv
  have := (Globe.validL_t.1 hv).2 _ (Globe.nth_mem hk)
  rw [← Globe.rowOk_t, h] at this
  cases this
theorem all_rows {l : List Int} (hl : l.length = 24) (h : ∀ j, j < 24 → Globe.rowOk (Globe.nth l j) = true) : Globe.validL l = true :=
  Globe.validL_t.2 ⟨hl, fun r hr => by
    obtain ⟨i, hi, rfl⟩ := Globe.mem_nth hr
    exact Globe.rowOk_t.1 (h i (by omega))⟩

set_option maxHeartbeats 2000000 in
theorem rValid_c {w0 : World} {a : Option Addr} {l : List Int} {n : Nat} (c : Nat) {v : Bool} (w : World) (h : AA w0 a l n v) (hE : Ext w0 w) :
    Calls Tryd.prog 45 #[.agg #[.slice a n c]] w fun e w' => e = .returned (.bool v) ∧ Ext w w' := by
  obtain ⟨h1, hn, hl, hv⟩ := h.ext hE
  clear hE h
  rcases Nat.eq_zero_or_pos n with h0 | h0
  · subst h0
    obtain rfl := List.length_eq_zero_iff.1 hn
    obtain rfl : v = false := by rw [← hv]; exact has_nil rfl (by simp)
    clear h1 hn hv hl
    go_enter Tryd.func45, Tryd.ntmps45
    go_wp2_with fail
    refine wp_loop_rounds 1 ?_
    rw [rounds_succ]
    go_wp2_with fail
    go_ret
    exact ⟨rfl, by (repeat' (first | (with_reducible assumption) | (with_reducible exact Ext.refl _) | (with_reducible refine Ext.alloc ?_ _) | (with_reducible refine Ext.drew ?_) | (with_reducible refine Ext.drewN ?_ _) | (with_reducible refine Ext.setCell ?_ ?_ _) | (with_reducible refine Ext.trans ?_ (by assumption)) | go_size))⟩
  · obtain ⟨b, off, rfl, hr⟩ : ∃ b off, a = some ⟨b, off, none⟩ ∧ ∀ i, i < n → w.cell? ⟨b, off + i, none⟩ = some (.int .i64 (Globe.nth l i)) := by
      rcases h1 with rfl | ⟨b, off, rfl, h⟩
      · simp at hn; omega
      · exact ⟨b, off, rfl, fun i hi => h i (by omega)⟩
    have HR := Lib.hid hr; have Hn := Lib.hid hn; have Hv := Lib.hid hv
    clear h1 hr hn hv
    go_enter Tryd.func45, Tryd.ntmps45
    go_wp2_with fail
    refine wp_name (fun V => Ext w V ∧ V.cell? ⟨w.heap.size, 0, none⟩ = some (.slice (some ⟨b, off, none⟩) n c)) ⟨by (repeat' (first | (with_reducible assumption) | (with_reducible exact Ext.refl _) | (with_reducible refine Ext.alloc ?_ _) | (with_reducible refine Ext.drew ?_) | (with_reducible refine Ext.drewN ?_ _) | (with_reducible refine Ext.setCell ?_ ?_ _) | (with_reducible refine Ext.trans ?_ (by assumption)) | go_size)), by simp [go_sem]⟩ ?_
    rintro V ⟨hV, k1⟩
    go_loopw [3] (fun p wr => ∃ k : Nat, k ≤ n ∧ k ≤ 25 ∧ p = .int .i64 k ∧ Hid (∀ j, j < k → Globe.rowOk (Globe.nth l j) = true) ∧ Ext V wr) (fun p _ => 25 - (intOf p).toNat)
    case atStart => exact ⟨0, by omega, by omega, rfl, fun j hj => by omega, Ext.refl _⟩
    case round =>
      obtain ⟨k, hk, hk25, rfl, Hp, hE⟩ := hrel
      replace k1 := hE.cell k1
      by_cases hlt : k < n
      · by_cases hl5 : k < 25
        · have d1 : wr.cell? ⟨b, off + k, none⟩ = some (.int .i64 (Globe.nth l k)) := hE.cell (hV.cell (HR.out k hlt))
          have kk0 : (0 : Int) ≤ (k : Int) := by omega
          have kk1 : (k : Int) < (n : Int) := by omega
          cases hq : Globe.rowOk (Globe.nth l k)
          · have hf : v = false := by rw [← Hv.out]; exact bad_row (by rw [Hn.out]; exact hlt) hq
            have Hf := Lib.hid hf; clear hf
            have hq' := Globe.rowOk_f.1 hq
            clear hq
            generalize Globe.nth l k = x at *
            by_cases hx : x < 0
            · clear hq'
              go_wp2_with fail
              go_ret
              exact ⟨ret_bool Hf.out.symm, by (repeat' (first | (with_reducible assumption) | (with_reducible exact Ext.refl _) | (with_reducible refine Ext.alloc ?_ _) | (with_reducible refine Ext.drew ?_) | (with_reducible refine Ext.drewN ?_ _) | (with_reducible refine Ext.setCell ?_ ?_ _) | (with_reducible refine Ext.trans ?_ (by assumption)) | go_size))⟩
            · have hx2 : 281474976710656 ≤ x := by omega
              clear hq'
              go_wp2_with fail
              go_ret
              exact ⟨ret_bool Hf.out.symm, by (repeat' (first | (with_reducible assumption) | (with_reducible exact Ext.refl _) | (with_reducible refine Ext.alloc ?_ _) | (with_reducible refine Ext.drew ?_) | (with_reducible refine Ext.drewN ?_ _) | (with_reducible refine Ext.setCell ?_ ?_ _) | (with_reducible refine Ext.trans ?_ (by assumption)) | go_size))⟩
          · have hq' := Globe.rowOk_t.1 hq
            have Hq := Lib.hid hq; clear hq
            obtain ⟨q1, q2⟩ := hq'
            have q3 : ¬ 281474976710656 ≤ Globe.nth l k := by omega
            have q4 : ¬ Globe.nth l k < 0 := by omega
            go_wp2_with fail
            go_roundw
            case rel => exact ⟨k + 1, by omega, by omega, by go_num, fun j hj => by
              rcases Nat.lt_or_ge j k with h | h
              · exact Hp.out j h
              · rw [show j = k by omega]; exact Hq.out, by (repeat' (first | (with_reducible assumption) | (with_reducible exact Ext.refl _) | (with_reducible refine Ext.alloc ?_ _) | (with_reducible refine Ext.drew ?_) | (with_reducible refine Ext.drewN ?_ _) | (with_reducible refine Ext.setCell ?_ ?_ _) | (with_reducible refine Ext.trans ?_ (by assumption)) | go_size))⟩
            case measure => simp [intOf]; omega
        · obtain rfl : k = 25 := by omega
          have hf : v = false := by rw [← Hv.out]; exact has_nil Hn.out (by omega)
          subst hf
          have hn24 : ((n : Int) == 24) = false := by simp; omega
          have hn24' : (n == 24) = false := by simp; omega
          have hn24'' : ¬ n = 24 := by omega
          go_wp2_with fail
          go_ret
          exact ⟨rfl, by (repeat' (first | (with_reducible assumption) | (with_reducible exact Ext.refl _) | (with_reducible refine Ext.alloc ?_ _) | (with_reducible refine Ext.drew ?_) | (with_reducible refine Ext.drewN ?_ _) | (with_reducible refine Ext.setCell ?_ ?_ _) | (with_reducible refine Ext.trans ?_ (by assumption)) | go_size))⟩
      · obtain rfl : k = n := by omega
        by_cases h24 : k = 24
        · subst h24
          have ht : v = true := by rw [← Hv.out]; exact all_rows Hn.out Hp.out
          subst ht
          go_wp2_with fail
          go_ret
          exact ⟨rfl, by (repeat' (first | (with_reducible assumption) | (with_reducible exact Ext.refl _) | (with_reducible refine Ext.alloc ?_ _) | (with_reducible refine Ext.drew ?_) | (with_reducible refine Ext.drewN ?_ _) | (with_reducible refine Ext.setCell ?_ ?_ _) | (with_reducible refine Ext.trans ?_ (by assumption)) | go_size))⟩
        · have hf : v = false := by rw [← Hv.out]; exact has_nil Hn.out h24
          subst hf
          have hn24 : ((k : Int) == 24) = false := by simp; omega
          have hn24' : (k == 24) = false := by simp; omega
          by_cases h25 : k < 25
          · go_wp2_with fail
            go_ret
            exact ⟨rfl, by (repeat' (first | (with_reducible assumption) | (with_reducible exact Ext.refl _) | (with_reducible refine Ext.alloc ?_ _) | (with_reducible refine Ext.drew ?_) | (with_reducible refine Ext.drewN ?_ _) | (with_reducible refine Ext.setCell ?_ ?_ _) | (with_reducible refine Ext.trans ?_ (by assumption)) | go_size))⟩
          · go_wp2_with fail
            go_ret
            exact ⟨rfl, by (repeat' (first | (with_reducible assumption) | (with_reducible exact Ext.refl _) | (with_reducible refine Ext.alloc ?_ _) | (with_reducible refine Ext.drew ?_) | (with_reducible refine Ext.drewN ?_ _) | (with_reducible refine Ext.setCell ?_ ?_ _) | (with_reducible refine Ext.trans ?_ (by assumption)) | go_size))⟩

/-- Whether a valid area has a cell. -/
theorem rhas_v {w0 : World} {b o : Nat} (c : Nat) {l : List Int} {x y : Nat} {r : Bool} (w : World) (h : VA w0 b o l) (hE : Ext w0 w) (hx : x < 48) (hy : y < 24) (hr : Globe.hasL l x y = r) :
    Calls Tryd.prog 59 #[.agg #[.slice (some ⟨b, o, none⟩) 24 c], .int .i64 (x : Int), .int .i64 (y : Int)] w fun e w' => e = .returned (.bool r) ∧ Ext w w' := by
  replace h := h.ext hE
  clear hE
  have d := h.cell hy
  have hbl := h.lt
  have hm := bit_mod2 (Globe.rowN l y) x
  have hge : (0 : Int) ≤ ((Globe.rowN l y : Nat) : Int) / 2 ^ x := by rw [div_pow_cast]; exact Int.natCast_nonneg _
  have ht : (((Globe.rowN l y : Nat) : Int) / 2 ^ x).tmod 2 = ((Globe.rowN l y : Nat) : Int) / 2 ^ x % 2 := Int.tmod_eq_emod_of_nonneg hge
  have hh : Globe.hasL l x y = (Globe.rowN l y).testBit x := rfl
  rw [hm] at ht
  have y0 : (0 : Int) ≤ (y : Int) := by omega
  have y1 : (y : Int) < 24 := by omega
  have x0 : (0 : Int) ≤ (x : Int) := by omega
  have x1 : (x : Int) < 48 := by omega
  rw [hr] at hh
  rw [← hh] at hm ht
  clear hh hr h
  generalize Globe.rowN l y = R at *
  cases r
  · rw [if_neg (by simp)] at hm ht
    go_enter Tryd.func59, Tryd.ntmps59
    go_wp2
    go_ret
    exact ⟨rfl, by (repeat' (first | (with_reducible assumption) | (with_reducible exact Ext.refl _) | (with_reducible refine Ext.alloc ?_ _) | (with_reducible refine Ext.drew ?_) | (with_reducible refine Ext.drewN ?_ _) | (with_reducible refine Ext.setCell ?_ ?_ _) | (with_reducible refine Ext.trans ?_ (by assumption)) | go_size))⟩
  · rw [if_pos rfl] at hm ht
    go_enter Tryd.func59, Tryd.ntmps59
    go_wp2
    go_ret
    exact ⟨rfl, by (repeat' (first | (with_reducible assumption) | (with_reducible exact Ext.refl _) | (with_reducible refine Ext.alloc ?_ _) | (with_reducible refine Ext.drew ?_) | (with_reducible refine Ext.drewN ?_ _) | (with_reducible refine Ext.setCell ?_ ?_ _) | (with_reducible refine Ext.trans ?_ (by assumption)) | go_size))⟩

/-- A list of cells. -/
def RetCells (w : World) (cs : List (Nat × Nat)) (e : Ending) (w' : World) : Prop := ∃ (a : Option Addr) (k : Nat), e = .returned (.slice a cs.length k) ∧ CellsAt w' a cs.length cs ∧ Ext w w'
/-- The cells of a row below a column. -/
def rowTo (l : List Int) (y x : Nat) : List (Nat × Nat) := ((List.range x).filter fun i => Globe.hasL l i y).map fun i => (i, y)
theorem rowTo_zero (l : List Int) (y : Nat) : rowTo l y 0 = [] := by simp [rowTo]
theorem rowTo_yes {l : List Int} {y x : Nat} (h : Globe.hasL l x y = true) : rowTo l y (x + 1) = rowTo l y x ++ [(x, y)] := by
  unfold rowTo
  rw [List.range_succ, List.filter_append, List.map_append]
  simp [h]
theorem rowTo_no {l : List Int} {y x : Nat} (h : Globe.hasL l x y = false) : rowTo l y (x + 1) = rowTo l y x := by
  unfold rowTo
  rw [List.range_succ, List.filter_append, List.map_append]
  simp [h]
theorem rowTo_all (l : List Int) (y : Nat) : rowTo l y 48 = Globe.rowCells l y := rfl
theorem rowTo_len (l : List Int) (y x : Nat) : (rowTo l y x).length ≤ x := by
  unfold rowTo
  rw [List.length_map]
  exact Nat.le_trans (List.length_filter_le _ _) (by simp)

set_option maxHeartbeats 2000000 in
theorem rCells_v {w0 : World} {b o : Nat} (c : Nat) {l : List Int} (w : World) (h : VA w0 b o l) (hE : Ext w0 w) :
    Calls Tryd.prog 55 #[.agg #[.slice (some ⟨b, o, none⟩) 24 c]] w (RetCells w (Globe.cellsTo l 24)) := by
  replace h := h.ext hE
  clear hE
  obtain ⟨i0, hi, hz0, hz1, hz2⟩ := info_parts (P := Tryd.prog) (e := 23) (z := .agg #[.int .i64 0, .int .i64 0]) (size := 2) (bytes := 16) (by kernel_rfl)
  go_enter Tryd.func55, Tryd.ntmps55
  go_wp2_with fail
  refine (rValid_c c _ h.aa (by (repeat' (first | (with_reducible assumption) | (with_reducible exact Ext.refl _) | (with_reducible refine Ext.alloc ?_ _) | (with_reducible refine Ext.drew ?_) | (with_reducible refine Ext.drewN ?_ _) | (with_reducible refine Ext.setCell ?_ ?_ _) | (with_reducible refine Ext.trans ?_ (by assumption)) | go_size)))).mono ?_
  rintro e w1 ⟨rfl, hb⟩
  have hc := hb.cellE; have hf := hb.frozenE; have hz := hb.size; have ha := alloc_keeps w1; (try simp only [World.size_alloc] at hc hf hz); (try simp only [World.size_setCell] at hc hf hz); (try simp only [World.size_drew] at hc hf hz)
  go_wp2_with fail
  refine wp_name (fun V => Ext w V ∧ V.cell? ⟨w.heap.size, 0, none⟩ = some (.slice (some ⟨b, o, none⟩) 24 c)) ⟨by (repeat' (first | (with_reducible assumption) | (with_reducible exact Ext.refl _) | (with_reducible refine Ext.alloc ?_ _) | (with_reducible refine Ext.drew ?_) | (with_reducible refine Ext.drewN ?_ _) | (with_reducible refine Ext.setCell ?_ ?_ _) | (with_reducible refine Ext.trans ?_ (by assumption)) | go_size)), hb.cell (by simp [go_sem])⟩ ?_
  clear hb hc hf hz ha
  rintro V ⟨hE, k1⟩
  replace h := h.ext hE
  have lk := World.block_lt_of_cell? V _ k1
  have H := Lib.hid h; clear h
  have Hi := Lib.hid (And.intro hi (And.intro hz0 (And.intro hz1 hz2))); clear hi hz0 hz1 hz2
  go_loopw [3, 4] (fun r p wr => ∃ y : Nat, y ≤ 24 ∧ p = .int .i64 y ∧ wr.ownsRow V.heap.size 23 2 r (Globe.cellsTo l y).length (cellVals (Globe.cellsTo l y)) ∧ Ext V wr) (fun _ p _ => 24 - (intOf p).toNat)
  case atStart => exact ⟨0, by omega, rfl, World.ownsRow_nil _ _ _ _, Ext.refl _⟩
  case round =>
    obtain ⟨y, hy, rfl, hrow, e6⟩ := hrel
    have Hrow := Lib.hid hrow; clear hrow
    by_cases hlt : y < 24
    · have y1 : (y : Int) < 24 := by omega
      have y0 : (0 : Int) ≤ (y : Int) := by omega
      go_wp2_with fail
      go_loopw [3, 5] (fun r p wr => ∃ x : Nat, x ≤ 48 ∧ p = .int .i64 x ∧ wr.ownsRow V.heap.size 23 2 r (Globe.cellsTo l y ++ rowTo l y x).length (cellVals (Globe.cellsTo l y ++ rowTo l y x)) ∧ Ext V wr) (fun _ p _ => 48 - (intOf p).toNat)
      case atStart => exact ⟨0, by omega, rfl, by rw [rowTo_zero, List.append_nil]; exact Hrow.out, e6⟩
      case round =>
        clear e6
        obtain ⟨x, hx, rfl, hrow, e6⟩ := hrel
        have Hrow := Lib.hid hrow; clear hrow
        by_cases hlx : x < 48
        · have x1 : (x : Int) < 48 := by omega
          have x0 : (0 : Int) ≤ (x : Int) := by omega
          have k2 := e6.cell k1
          cases hh : Globe.hasL l x y
          · have HH := Lib.hid hh; clear hh
            go_wp2_with fail
            refine (rhas_v c _ H.out e6 hlx hlt HH.out).mono ?_
            rintro e w1 ⟨rfl, hb⟩
            go_wp2_with fail
            go_roundw
            case rel => exact ⟨x + 1, by omega, by go_num, by rw [rowTo_no HH.out]; exact own_ext Hrow.out hb, e6.trans hb⟩
            case measure => simp [intOf]; omega
          · have HH := Lib.hid hh; clear hh
            go_wp2_with fail
            refine (rhas_v c _ H.out e6 hlx hlt HH.out).mono ?_
            rintro e w1 ⟨rfl, hb⟩
            have hlen : (Globe.cellsTo l y ++ rowTo l y x).length ≤ 1152 := by
              have e1 := Globe.cellsTo_len l y
              have e2 := rowTo_len l y x
              rw [List.length_append]; omega
            have hs6 := (e6.trans hb).size
            go_wp2_with (at_builtin; refine wpList_append_own _ rfl _ _ 37 rfl V.heap.size 23 i0 (.agg #[.int .i64 0, .int .i64 0]) 2 16 Tryd.underlying37 Hi.out.1 Hi.out.2.1 Hi.out.2.2.1 Hi.out.2.2.2 rfl (by decide) _ _ _ rfl ((own_ext Hrow.out hb).alloc _) ⟨w1.heap.size, 0, none⟩ 1 1 [.int .i64 (x : Int), .int .i64 (y : Int)] rfl rfl (cell_two_new _ _ _ _) (by simp [Value.oneCell']) (by unfold maxLen; omega) (by omega) (by simp; omega) ?_; intro v' w3 hown' hg3 hnil3; go_frame)
            have hE3 := Ext.own (Ext.alloc (e6.trans hb) _) ((own_ext Hrow.out hb).alloc _) hg3
            go_roundw
            case rel =>
              refine ⟨x + 1, by omega, by go_num, ?_, hE3⟩
              rw [rowTo_yes HH.out, ← List.append_assoc, cellVals_snoc, List.length_append]
              exact hown'
            case measure => simp [intOf]; omega
        · obtain rfl : x = 48 := by omega
          go_wp2_with fail
          go_roundw
          case rel => exact ⟨y + 1, by omega, by go_num, by rw [Globe.cellsTo_succ, ← rowTo_all]; exact Hrow.out, e6⟩
          case measure => simp [intOf]; omega
    · obtain rfl : y = 24 := by omega
      go_wp2_with fail
      go_ret
      obtain ⟨a, k, rfl, hc2⟩ := CellsAt.own rfl Hrow.out
      exact ⟨a, k, rfl, hc2, by (repeat' (first | (with_reducible assumption) | (with_reducible exact Ext.refl _) | (with_reducible refine Ext.alloc ?_ _) | (with_reducible refine Ext.drew ?_) | (with_reducible refine Ext.drewN ?_ _) | (with_reducible refine Ext.setCell ?_ ?_ _) | (with_reducible refine Ext.trans ?_ (by assumption)) | go_size))⟩
theorem rCells_c {w0 : World} {a : Option Addr} {l : List Int} {n : Nat} (c : Nat) {v : Bool} (w : World) (h : AA w0 a l n v) (hE : Ext w0 w) :
    Calls Tryd.prog 55 #[.agg #[.slice a n c]] w (RetCells w (Globe.cellsL l)) := by
  replace h := h.ext hE
  unfold Globe.cellsL
  rw [h.2.2.2]
  cases v
  · have H := Lib.hid h; clear h hE
    go_enter Tryd.func55, Tryd.ntmps55
    go_wp2_with fail
    refine (rValid_c c _ H.out (by (repeat' (first | (with_reducible assumption) | (with_reducible exact Ext.refl _) | (with_reducible refine Ext.alloc ?_ _) | (with_reducible refine Ext.drew ?_) | (with_reducible refine Ext.drewN ?_ _) | (with_reducible refine Ext.setCell ?_ ?_ _) | (with_reducible refine Ext.trans ?_ (by assumption)) | go_size)))).mono ?_
    rintro e w1 ⟨rfl, hb⟩
    go_wp2_with fail
    go_ret
    exact ⟨none, 0, rfl, CellsAt.nil _ _, by (repeat' (first | (with_reducible assumption) | (with_reducible exact Ext.refl _) | (with_reducible refine Ext.alloc ?_ _) | (with_reducible refine Ext.drew ?_) | (with_reducible refine Ext.drewN ?_ _) | (with_reducible refine Ext.setCell ?_ ?_ _) | (with_reducible refine Ext.trans ?_ (by assumption)) | go_size))⟩
  · obtain ⟨b, o, rfl, rfl, r⟩ := h.va
    exact rCells_v c w r (Ext.refl _)
theorem rCount_c {w0 : World} {a : Option Addr} {l : List Int} {n : Nat} (c : Nat) {v : Bool} (w : World) (h : AA w0 a l n v) (hE : Ext w0 w) :
    Calls Tryd.prog 46 #[.agg #[.slice a n c]] w fun e w' => e = .returned (.int .i64 (Globe.countL l : Nat)) ∧ Ext w w' := by
  have H := Lib.hid (h.ext hE); clear h hE
  go_enter Tryd.func46, Tryd.ntmps46
  go_wp2_with fail
  refine (rCells_c c _ H.out (by (repeat' (first | (with_reducible assumption) | (with_reducible exact Ext.refl _) | (with_reducible refine Ext.alloc ?_ _) | (with_reducible refine Ext.drew ?_) | (with_reducible refine Ext.drewN ?_ _) | (with_reducible refine Ext.setCell ?_ ?_ _) | (with_reducible refine Ext.trans ?_ (by assumption)) | go_size)))).mono ?_
  rintro e w1 ⟨a1, k, rfl, -, hb⟩
  go_wp2_with fail
  go_ret
  exact ⟨rfl, by (repeat' (first | (with_reducible assumption) | (with_reducible exact Ext.refl _) | (with_reducible refine Ext.alloc ?_ _) | (with_reducible refine Ext.drew ?_) | (with_reducible refine Ext.drewN ?_ _) | (with_reducible refine Ext.setCell ?_ ?_ _) | (with_reducible refine Ext.trans ?_ (by assumption)) | go_size))⟩

end Go.Proofs.YtknlnmalaidaiaaDoor
