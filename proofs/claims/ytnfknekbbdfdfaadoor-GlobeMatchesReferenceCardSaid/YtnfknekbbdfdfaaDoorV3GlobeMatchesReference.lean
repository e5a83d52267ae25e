/- Part 3 of what the proof of GlobeMatchesReference stands on. -/
import Derived.Test.YtnfknekbbdfdfaaDoorV2GlobeMatchesReference
import Derived.Scope
/- Contracts of the reference of package globe: Box, Has, With. -/
namespace Go.Proofs.YtnfknekbbdfdfaaDoor
open Go.RowKit
open Globe (outTo outTo_snoc outTo_nil outTo_spec)

theorem grown_ext {V w1 w2 : World} {B : Nat} (hg : V.grownBy w1 (some B)) (hE : Ext w1 w2) : V.grownBy w2 (some B) :=
  ⟨hE.os.trans hg.os, hE.tape.trans hg.tape, hE.output.trans hg.output, Nat.le_trans hg.size hE.size, fun k hk hne => (Below.block hE k (Nat.lt_of_lt_of_le hk hg.size)).trans (hg.block k hk hne)⟩
theorem modN_nat (n : Int) (m : Nat) (h : n = (m : Int)) : modN n = m % 48 := by subst h; unfold modN; omega
/-- put, where the row is any number that stands for y. -/
theorem put_r {B : Nat} {pts : List (Nat × Nat)} {Y : Nat} (c : Nat) (x y : Int) (w : World) (h : RowsAt w B (outTo pts)) (hp : ∀ p ∈ pts, p.1 < 48 ∧ p.2 < 24) (e : y = (Y : Int)) (hy : Y < 24) :
    Calls Tryd.prog 49 #[.agg #[.slice (some ⟨B, 0, none⟩) 24 c], .int .i64 x, .int .i64 y] w fun e w' => (∃ v, e = .returned v) ∧ RowsAt w' B (outTo (pts ++ [(modN x, Y)])) ∧ w.grownBy w' (some B) := by
  subst e
  rw [outTo_snoc]
  exact put_c B c (outTo pts) x Y w h (outTo_spec _ _ rfl hp).1 hy
theorem pts_snoc {pts : List (Nat × Nat)} {p : Nat × Nat} (h : ∀ q ∈ pts, q.1 < 48 ∧ q.2 < 24) (h1 : p.1 < 48) (h2 : p.2 < 24) : ∀ q ∈ pts ++ [p], q.1 < 48 ∧ q.2 < 24 := by
  intro q hq
  rcases List.mem_append.1 hq with hq | hq
  · exact h q hq
  · rw [List.mem_singleton] at hq; subst hq; exact ⟨h1, h2⟩
/-- The cells of a box, the first k rows; the first i cells of a row. -/
def rowPts (x y i : Nat) : List (Nat × Nat) := (List.range i).map fun j => ((x + j) % 48, y)
def boxPts (x y wide k : Nat) : List (Nat × Nat) := (List.range k).flatMap fun j => rowPts x (y + j) wide
theorem rowPts_succ (x y i : Nat) : rowPts x y (i + 1) = rowPts x y i ++ [((x + i) % 48, y)] := by simp [rowPts, List.range_succ]
theorem boxPts_succ (x y wide k : Nat) : boxPts x y wide (k + 1) = boxPts x y wide k ++ rowPts x (y + k) wide := by simp [boxPts, List.range_succ]
theorem rowPts_in {x y i : Nat} (hy : y < 24) : ∀ p ∈ rowPts x y i, p.1 < 48 ∧ p.2 < 24 := by
  intro p hp
  simp only [rowPts, List.mem_map, List.mem_range] at hp
  obtain ⟨j, _, rfl⟩ := hp
  exact ⟨Nat.mod_lt _ (by decide), hy⟩
theorem boxPts_in {x y wide k : Nat} (hy : y + k ≤ 24) : ∀ p ∈ boxPts x y wide k, p.1 < 48 ∧ p.2 < 24 := by
  intro p hp
  simp only [boxPts, List.mem_flatMap, List.mem_range] at hp
  obtain ⟨j, hj, hp⟩ := hp
  exact rowPts_in (by omega) p hp
theorem box_pts {x y wide high : Nat} (hx : x < 48) (hw : wide ≤ 48) (hh : y + high ≤ 24) : outTo (boxPts x y wide high) = Globe.boxL x y wide high := by
  have hin := boxPts_in (x := x) (wide := wide) hh
  have hs := outTo_spec _ _ rfl hin
  refine Globe.ext_has hs.1 (Globe.box_valid _ _ _ _) fun x' y' hx' hy' => ?_
  rw [hs.2, Globe.has_box hx hw hx' hy', Bool.eq_iff_iff]
  simp only [decide_eq_true_eq, Bool.and_eq_true, boxPts, rowPts, List.mem_flatMap, List.mem_map, List.mem_range, Prod.mk.injEq]
  constructor
  · rintro ⟨j, hj, i, hi, rfl, rfl⟩
    exact ⟨by omega, by omega⟩
  · rintro ⟨h1, h2⟩
    exact ⟨y' - y, by omega, (x' + 48 - x) % 48, h2, by omega, by omega⟩

set_option maxHeartbeats 2000000 in
theorem rBox_y (x y wide high : Nat) (w : World) (hx : x < 48) (hy : y < 24) (hw1 : 1 ≤ wide) (hw : wide ≤ 48) (hh1 : 1 ≤ high) (hh : y + high ≤ 24) :
    Calls Tryd.prog 20 #[.agg #[.int .i64 (x : Int), .int .i64 (y : Int)], .int .i64 (wide : Int), .int .i64 (high : Int)] w (RetV w (Globe.boxL x y wide high)) := by
  have hvc : Globe.vcB (x : Int) (y : Int) = true := Globe.vcB_t.2 (by omega)
  rw [← box_pts hx hw hh]
  have g1 : ¬ (wide : Int) < 1 := by omega
  have g2 : ¬ 48 < (wide : Int) := by omega
  have g3 : ¬ (high : Int) < 1 := by omega
  have g4 : ¬ 24 - (y : Int) < (high : Int) := by omega
  go_enter Tryd.func20, Tryd.ntmps20
  go_wp2_with (first | (go_at_call 16; refine (rValidCell_c _ _ _).mono ?_; rw [hvc]; rintro e w1 ⟨rfl, hb⟩; have hc := hb.cellE; have hf := hb.frozenE; have hz := hb.size; have ha := alloc_keeps w1; (try simp only [World.size_alloc] at hc hf hz); (try simp only [World.size_setCell] at hc hf hz); (try simp only [World.size_drew] at hc hf hz)) | (go_at_call 47; refine (rEmpty_c _).mono ?_; rintro e w2 ⟨B, rfl, hB, hr, hb2⟩; have hc2 := hb2.cellE; have hf2 := hb2.frozenE; have hz2 := hb2.size; have ha2 := alloc_keeps w2; (try simp only [World.size_alloc] at hc2 hf2 hz2); (try simp only [World.size_setCell] at hc2 hf2 hz2); (try simp only [World.size_drew] at hc2 hf2 hz2)))
  obtain ⟨O, hO⟩ : ∃ O, O = w2.heap.size := ⟨_, rfl⟩
  rw [← hO]
  have hwB : w.heap.size + 1 < B := by first | omega | (simp at hB; omega)
  have hBO : B < O := by have := hr.lt; omega
  refine wp_name (fun V => Ext w V ∧ V.cell? ⟨w.heap.size, 0, none⟩ = some (.int .i64 (x : Int)) ∧ V.cell? ⟨w.heap.size, 1, none⟩ = some (.int .i64 (y : Int)) ∧ BoxAt V (w.heap.size + 1) 0 (.slice none 0 0) ∧ V.cell? ⟨O, 0, none⟩ = some (.slice (some ⟨B, 0, none⟩) 24 24) ∧ RowsAt V B (outTo (boxPts x y wide 0))) ⟨by (repeat' (first | (with_reducible assumption) | (with_reducible exact Ext.refl _) | (with_reducible refine Ext.alloc ?_ _) | (with_reducible refine Ext.drew ?_) | (with_reducible refine Ext.drewN ?_ _) | (with_reducible refine Ext.setCell ?_ ?_ _) | (with_reducible refine Ext.trans ?_ (by assumption)) | go_size)), ?_, ?_, ?_, by rw [hO]; simp [go_sem], hr.ext (by (repeat' (first | (with_reducible assumption) | (with_reducible exact Ext.refl _) | (with_reducible refine Ext.alloc ?_ _) | (with_reducible refine Ext.drew ?_) | (with_reducible refine Ext.drewN ?_ _) | (with_reducible refine Ext.setCell ?_ ?_ _) | (with_reducible refine Ext.trans ?_ (by assumption)) | go_size)))⟩ ?_
  · (repeat' (first | (with_reducible assumption) | (simp [go_sem]; done) | (with_reducible refine Ext.cell (Ext.alloc (Ext.refl _) _) ?_) | (with_reducible refine Ext.cell (by with_reducible assumption) ?_)))
  · (repeat' (first | (with_reducible assumption) | (simp [go_sem]; done) | (with_reducible refine Ext.cell (Ext.alloc (Ext.refl _) _) ?_) | (with_reducible refine Ext.cell (by with_reducible assumption) ?_)))
  · (repeat' (first | (with_reducible assumption) | (exact ⟨by simp [go_sem], by simp [go_sem]⟩) | (with_reducible refine BoxAt.ext (Ext.alloc (Ext.refl _) _) ?_) | (with_reducible refine BoxAt.ext (by with_reducible assumption) ?_)))
  clear hO hB hr hb2 hc2 hf2 hz2 ha2 hb hc hf hz ha
  rintro V ⟨hE, cX, cY, b6, cO, hr⟩
  have lO : O < V.heap.size := World.block_lt_of_cell? V _ cO
  go_loopw [9] (fun p wr => ∃ k : Nat, k ≤ high ∧ p = .int .i64 k ∧ RowsAt wr B (outTo (boxPts x y wide k)) ∧ V.grownBy wr (some B)) (fun p _ => high - (intOf p).toNat)
  case atStart => exact ⟨0, by omega, rfl, hr, grown_refl _ _⟩
  case round =>
    clear hr
    obtain ⟨k, hk, rfl, hr, hg⟩ := hrel
    have Hr := Lib.hid hr; clear hr
    by_cases hlt : k < high
    · have k1 : (k : Int) < (high : Int) := by omega
      go_wp2_with fail
      go_loopw [10] (fun p wr => ∃ i : Nat, i ≤ wide ∧ p = .int .i64 i ∧ RowsAt wr B (outTo (boxPts x y wide k ++ rowPts x (y + k) i)) ∧ V.grownBy wr (some B)) (fun p _ => wide - (intOf p).toNat)
      case atStart => exact ⟨0, by omega, rfl, by simpa [rowPts] using Hr.out, hg⟩
      case round =>
        clear hg
        obtain ⟨i, hi, rfl, hr, hg⟩ := hrel
        have Hr := Lib.hid hr; clear hr
        by_cases hli : i < wide
        · have i1 : (i : Int) < (wide : Int) := by omega
          have dO := grown_cell hg cO (by show O ≠ B; omega)
          have dX := grown_cell hg cX (by show w.heap.size ≠ B; omega)
          have dY := grown_cell hg cY (by show w.heap.size ≠ B; omega)
          have hin : ∀ p ∈ boxPts x y wide k ++ rowPts x (y + k) i, p.1 < 48 ∧ p.2 < 24 := fun p hp => (List.mem_append.1 hp).elim (boxPts_in (by omega) p) (rowPts_in (by omega) p)
          have Hin := Lib.hid hin; clear hin
          go_wp2_with fail
          refine (put_r 24 _ _ _ Hr.out Hin.out (Y := y + k) (by omega) (by omega)).mono ?_
          rintro e w1 ⟨⟨v, rfl⟩, hr2, hg2⟩
          rw [modN_nat _ (x + i) (by omega), List.append_assoc, ← rowPts_succ] at hr2
          have Hr2 := Lib.hid hr2; clear hr2
          go_wp2_with fail
          go_roundw
          case rel => exact ⟨i + 1, by omega, by go_num, Hr2.out, grown_trans hg hg2⟩
          case measure => simp [intOf]; omega
        · obtain rfl : i = wide := by omega
          go_wp2_with fail
          go_roundw
          case rel => exact ⟨k + 1, by omega, by go_num, by rw [boxPts_succ]; exact Hr.out, hg⟩
          case measure => simp [intOf]; omega
    · obtain rfl : k = high := by omega
      have dO := grown_cell hg cO (by show O ≠ B; omega)
      obtain ⟨d6, f6⟩ := BoxAt.grown hg b6 (by show w.heap.size + 1 ≠ B; omega)
      have hE2 := Ext.grown hE hg (by omega)
      have hr3 := Hr.out.other (p := ⟨w.heap.size + 1, 0, none⟩) (by show w.heap.size + 1 ≠ B; omega) (.slice (some ⟨B, 0, none⟩) 24 24)
      have hv3 := (outTo_spec _ _ rfl (boxPts_in (x := x) (wide := wide) hh)).1
      have H3 := Lib.hid hr3; have Hv3 := Lib.hid hv3; clear hr3 hv3 hg
      go_wp2_with fail
      refine bodyPost_ret (v := .tuple #[.agg #[.slice (some ⟨B, 0, none⟩) 24 24], .int .i64 0]) (by simp [results, Tryd.results20, go_sem, d6]) rfl ⟨B, 24, rfl, by omega, H3.out, H3.out.va Hv3.out, by (repeat' (first | (with_reducible assumption) | (with_reducible exact Ext.refl _) | (with_reducible refine Ext.alloc ?_ _) | (with_reducible refine Ext.drew ?_) | (with_reducible refine Ext.drewN ?_ _) | (with_reducible refine Ext.setCell ?_ ?_ _) | (with_reducible refine Ext.trans ?_ (by assumption)) | go_size))⟩

set_option maxHeartbeats 2000000 in
theorem rBox_n (x y wide high : Int) (w : World) (hv : boxB x y wide high = false) :
    Calls Tryd.prog 20 #[.agg #[.int .i64 x, .int .i64 y], .int .i64 wide, .int .i64 high] w (RetErr w 50) := by
  unfold boxB at hv
  cases h1 : Globe.vcB x y
  · clear hv
    go_enter Tryd.func20, Tryd.ntmps20
    go_wp2_with (go_at_call 16; refine (rValidCell_c _ _ _).mono ?_; rw [h1]; rintro e w1 ⟨rfl, hb⟩; have hc := hb.cellE; have hf := hb.frozenE; have hz := hb.size; have ha := alloc_keeps w1; (try simp only [World.size_alloc] at hc hf hz); (try simp only [World.size_setCell] at hc hf hz); (try simp only [World.size_drew] at hc hf hz))
    ((try simp only [Exit.inBlock, Exit.then]); refine bodyPost_ret (v := .tuple #[.agg #[.slice none 0 0], .int .i64 50]) (by simp [results, Tryd.results20, go_sem, *]) rfl ?_)
    exact ⟨rfl, by (repeat' (first | (with_reducible assumption) | (with_reducible exact Ext.refl _) | (with_reducible refine Ext.alloc ?_ _) | (with_reducible refine Ext.drew ?_) | (with_reducible refine Ext.drewN ?_ _) | (with_reducible refine Ext.setCell ?_ ?_ _) | (with_reducible refine Ext.trans ?_ (by assumption)) | go_size))⟩
  · obtain ⟨y0, y1⟩ : 0 ≤ y ∧ y ≤ 23 := ⟨(Globe.vcB_t.1 h1).2.2.1, (Globe.vcB_t.1 h1).2.2.2⟩
    by_cases a1 : wide < 1
    · clear hv
      go_enter Tryd.func20, Tryd.ntmps20
      go_wp2_with (go_at_call 16; refine (rValidCell_c _ _ _).mono ?_; rw [h1]; rintro e w1 ⟨rfl, hb⟩; have hc := hb.cellE; have hf := hb.frozenE; have hz := hb.size; have ha := alloc_keeps w1; (try simp only [World.size_alloc] at hc hf hz); (try simp only [World.size_setCell] at hc hf hz); (try simp only [World.size_drew] at hc hf hz))
      ((try simp only [Exit.inBlock, Exit.then]); refine bodyPost_ret (v := .tuple #[.agg #[.slice none 0 0], .int .i64 50]) (by simp [results, Tryd.results20, go_sem, *]) rfl ?_)
      exact ⟨rfl, by (repeat' (first | (with_reducible assumption) | (with_reducible exact Ext.refl _) | (with_reducible refine Ext.alloc ?_ _) | (with_reducible refine Ext.drew ?_) | (with_reducible refine Ext.drewN ?_ _) | (with_reducible refine Ext.setCell ?_ ?_ _) | (with_reducible refine Ext.trans ?_ (by assumption)) | go_size))⟩
    by_cases a2 : 48 < wide
    · clear hv
      go_enter Tryd.func20, Tryd.ntmps20
      go_wp2_with (go_at_call 16; refine (rValidCell_c _ _ _).mono ?_; rw [h1]; rintro e w1 ⟨rfl, hb⟩; have hc := hb.cellE; have hf := hb.frozenE; have hz := hb.size; have ha := alloc_keeps w1; (try simp only [World.size_alloc] at hc hf hz); (try simp only [World.size_setCell] at hc hf hz); (try simp only [World.size_drew] at hc hf hz))
      ((try simp only [Exit.inBlock, Exit.then]); refine bodyPost_ret (v := .tuple #[.agg #[.slice none 0 0], .int .i64 50]) (by simp [results, Tryd.results20, go_sem, *]) rfl ?_)
      exact ⟨rfl, by (repeat' (first | (with_reducible assumption) | (with_reducible exact Ext.refl _) | (with_reducible refine Ext.alloc ?_ _) | (with_reducible refine Ext.drew ?_) | (with_reducible refine Ext.drewN ?_ _) | (with_reducible refine Ext.setCell ?_ ?_ _) | (with_reducible refine Ext.trans ?_ (by assumption)) | go_size))⟩
    by_cases a3 : high < 1
    · clear hv
      go_enter Tryd.func20, Tryd.ntmps20
      go_wp2_with (go_at_call 16; refine (rValidCell_c _ _ _).mono ?_; rw [h1]; rintro e w1 ⟨rfl, hb⟩; have hc := hb.cellE; have hf := hb.frozenE; have hz := hb.size; have ha := alloc_keeps w1; (try simp only [World.size_alloc] at hc hf hz); (try simp only [World.size_setCell] at hc hf hz); (try simp only [World.size_drew] at hc hf hz))
      ((try simp only [Exit.inBlock, Exit.then]); refine bodyPost_ret (v := .tuple #[.agg #[.slice none 0 0], .int .i64 50]) (by simp [results, Tryd.results20, go_sem, *]) rfl ?_)
      exact ⟨rfl, by (repeat' (first | (with_reducible assumption) | (with_reducible exact Ext.refl _) | (with_reducible refine Ext.alloc ?_ _) | (with_reducible refine Ext.drew ?_) | (with_reducible refine Ext.drewN ?_ _) | (with_reducible refine Ext.setCell ?_ ?_ _) | (with_reducible refine Ext.trans ?_ (by assumption)) | go_size))⟩
    have a4 : 24 - y < high := by
      rw [h1, Bool.true_and, Globe.inB_t.2 ⟨by omega, by omega⟩, Bool.true_and, Globe.inB_f] at hv
      omega
    clear hv
    go_enter Tryd.func20, Tryd.ntmps20
    go_wp2_with (go_at_call 16; refine (rValidCell_c _ _ _).mono ?_; rw [h1]; rintro e w1 ⟨rfl, hb⟩; have hc := hb.cellE; have hf := hb.frozenE; have hz := hb.size; have ha := alloc_keeps w1; (try simp only [World.size_alloc] at hc hf hz); (try simp only [World.size_setCell] at hc hf hz); (try simp only [World.size_drew] at hc hf hz))
    ((try simp only [Exit.inBlock, Exit.then]); refine bodyPost_ret (v := .tuple #[.agg #[.slice none 0 0], .int .i64 50]) (by simp [results, Tryd.results20, go_sem, *]) rfl ?_)
    exact ⟨rfl, by (repeat' (first | (with_reducible assumption) | (with_reducible exact Ext.refl _) | (with_reducible refine Ext.alloc ?_ _) | (with_reducible refine Ext.drew ?_) | (with_reducible refine Ext.drewN ?_ _) | (with_reducible refine Ext.setCell ?_ ?_ _) | (with_reducible refine Ext.trans ?_ (by assumption)) | go_size))⟩
theorem rBox_c (x y wide high : Int) (w : World) :
    Calls Tryd.prog 20 #[.agg #[.int .i64 x, .int .i64 y], .int .i64 wide, .int .i64 high] w (RetAny w (boxB x y wide high) (Globe.boxL x.toNat y.toNat wide.toNat high.toNat) 50) := by
  cases hv : boxB x y wide high
  · exact (rBox_n x y wide high w hv).mono fun _ _ h => RetAny.no h
  · obtain ⟨⟨h0, h1, h2, h3⟩, ⟨h4, h5⟩, h6, h7⟩ := boxB_t.1 hv
    have := rBox_y x.toNat y.toNat wide.toNat high.toNat w (by omega) (by omega) (by omega) (by omega) (by omega) (by omega)
    rw [Int.toNat_of_nonneg h0, Int.toNat_of_nonneg h2, Int.toNat_of_nonneg (by omega), Int.toNat_of_nonneg (by omega)] at this
    exact this.mono fun _ _ h => h.any

set_option maxHeartbeats 1000000 in
theorem rHas_c {w0 : World} {a : Option Addr} {l : List Int} {n : Nat} (c : Nat) {v : Bool} (x y : Int) (w : World) (h : AA w0 a l n v) (hE : Ext w0 w) :
    Calls Tryd.prog 32 #[.agg #[.slice a n c], .agg #[.int .i64 x, .int .i64 y]] w fun e w' => e = .returned (.bool (hasB l x y)) ∧ Ext w w' := by
  replace h := h.ext hE
  clear hE
  have hv := h.2.2.2
  have hh : hasB l x y = (v && Globe.vcB x y && Globe.hasL l x.toNat y.toNat) := by unfold hasB; rw [hv]
  rw [hh]
  clear hh
  cases v
  · have H := Lib.hid h; clear h hv
    go_enter Tryd.func32, Tryd.ntmps32
    go_wp2_with (first | (go_at_call 23; refine (rValid_c _ _ H.out (by (repeat' (first | (with_reducible assumption) | (with_reducible exact Ext.refl _) | (with_reducible refine Ext.alloc ?_ _) | (with_reducible refine Ext.drew ?_) | (with_reducible refine Ext.drewN ?_ _) | (with_reducible refine Ext.setCell ?_ ?_ _) | (with_reducible refine Ext.trans ?_ (by assumption)) | go_size)))).mono ?_; rintro e w1 ⟨rfl, hb⟩; have hc := hb.cellE; have hf := hb.frozenE; have hz := hb.size; have ha := alloc_keeps w1; (try simp only [World.size_alloc] at hc hf hz); (try simp only [World.size_setCell] at hc hf hz); (try simp only [World.size_drew] at hc hf hz)))
    go_ret
    exact ⟨rfl, by (repeat' (first | (with_reducible assumption) | (with_reducible exact Ext.refl _) | (with_reducible refine Ext.alloc ?_ _) | (with_reducible refine Ext.drew ?_) | (with_reducible refine Ext.drewN ?_ _) | (with_reducible refine Ext.setCell ?_ ?_ _) | (with_reducible refine Ext.trans ?_ (by assumption)) | go_size))⟩
  · cases h1 : Globe.vcB x y
    · have H := Lib.hid h; clear h hv
      go_enter Tryd.func32, Tryd.ntmps32
      go_wp2_with (first | (go_at_call 23; refine (rValid_c _ _ H.out (by (repeat' (first | (with_reducible assumption) | (with_reducible exact Ext.refl _) | (with_reducible refine Ext.alloc ?_ _) | (with_reducible refine Ext.drew ?_) | (with_reducible refine Ext.drewN ?_ _) | (with_reducible refine Ext.setCell ?_ ?_ _) | (with_reducible refine Ext.trans ?_ (by assumption)) | go_size)))).mono ?_; rintro e w1 ⟨rfl, hb⟩; have hc := hb.cellE; have hf := hb.frozenE; have hz := hb.size; have ha := alloc_keeps w1; (try simp only [World.size_alloc] at hc hf hz); (try simp only [World.size_setCell] at hc hf hz); (try simp only [World.size_drew] at hc hf hz)) | (go_at_call 16; refine (rValidCell_c _ _ _).mono ?_; rw [h1]; rintro e w2 ⟨rfl, hb2⟩; have hc2 := hb2.cellE; have hf2 := hb2.frozenE; have hz2 := hb2.size; have ha2 := alloc_keeps w2; (try simp only [World.size_alloc] at hc2 hf2 hz2); (try simp only [World.size_setCell] at hc2 hf2 hz2); (try simp only [World.size_drew] at hc2 hf2 hz2)))
      go_ret
      exact ⟨rfl, by (repeat' (first | (with_reducible assumption) | (with_reducible exact Ext.refl _) | (with_reducible refine Ext.alloc ?_ _) | (with_reducible refine Ext.drew ?_) | (with_reducible refine Ext.drewN ?_ _) | (with_reducible refine Ext.setCell ?_ ?_ _) | (with_reducible refine Ext.trans ?_ (by assumption)) | go_size))⟩
    · obtain ⟨x0, x1, y0, y1⟩ := Globe.vcB_t.1 h1
      obtain ⟨b, o, rfl, rfl, r⟩ := h.va
      obtain ⟨X, rfl⟩ := Int.eq_ofNat_of_zero_le x0
      obtain ⟨Y, rfl⟩ := Int.eq_ofNat_of_zero_le y0
      have H := Lib.hid r; clear h hv r
      rw [Int.toNat_natCast, Int.toNat_natCast]
      go_enter Tryd.func32, Tryd.ntmps32
      go_wp2_with (first | (go_at_call 23; refine (rValid_c _ _ H.out.aa (by (repeat' (first | (with_reducible assumption) | (with_reducible exact Ext.refl _) | (with_reducible refine Ext.alloc ?_ _) | (with_reducible refine Ext.drew ?_) | (with_reducible refine Ext.drewN ?_ _) | (with_reducible refine Ext.setCell ?_ ?_ _) | (with_reducible refine Ext.trans ?_ (by assumption)) | go_size)))).mono ?_; rintro e w1 ⟨rfl, hb⟩; have hc := hb.cellE; have hf := hb.frozenE; have hz := hb.size; have ha := alloc_keeps w1; (try simp only [World.size_alloc] at hc hf hz); (try simp only [World.size_setCell] at hc hf hz); (try simp only [World.size_drew] at hc hf hz)) | (go_at_call 16; refine (rValidCell_c _ _ _).mono ?_; rw [h1]; rintro e w2 ⟨rfl, hb2⟩; have hc2 := hb2.cellE; have hf2 := hb2.frozenE; have hz2 := hb2.size; have ha2 := alloc_keeps w2; (try simp only [World.size_alloc] at hc2 hf2 hz2); (try simp only [World.size_setCell] at hc2 hf2 hz2); (try simp only [World.size_drew] at hc2 hf2 hz2)) | (go_at_call 56; refine (rhas_v _ _ H.out (by (repeat' (first | (with_reducible assumption) | (with_reducible exact Ext.refl _) | (with_reducible refine Ext.alloc ?_ _) | (with_reducible refine Ext.drew ?_) | (with_reducible refine Ext.drewN ?_ _) | (with_reducible refine Ext.setCell ?_ ?_ _) | (with_reducible refine Ext.trans ?_ (by assumption)) | go_size))) (by omega) (by omega) rfl).mono ?_; rintro e w3 ⟨rfl, hb3⟩))
      go_ret
      exact ⟨rfl, by (repeat' (first | (with_reducible assumption) | (with_reducible exact Ext.refl _) | (with_reducible refine Ext.alloc ?_ _) | (with_reducible refine Ext.drew ?_) | (with_reducible refine Ext.drewN ?_ _) | (with_reducible refine Ext.setCell ?_ ?_ _) | (with_reducible refine Ext.trans ?_ (by assumption)) | go_size))⟩

set_option maxHeartbeats 1000000 in
theorem rWith_v {w0 : World} {b o : Nat} (c : Nat) {l : List Int} (x y : Nat) (w : World) (h : VA w0 b o l) (hE : Ext w0 w) (hx : x < 48) (hy : y < 24) :
    Calls Tryd.prog 30 #[.agg #[.slice (some ⟨b, o, none⟩) 24 c], .agg #[.int .i64 (x : Int), .int .i64 (y : Int)]] w (RetV w (Globe.putL l x y)) := by
  replace h := h.ext hE
  clear hE
  have h1 : Globe.vcB (x : Int) (y : Int) = true := Globe.vcB_t.2 (by omega)
  have H := Lib.hid h
  have hl24 := h.len
  have hv := h.2
  clear h
  obtain ⟨i0, hi, hz0, hz1, hz2⟩ := info_parts (P := Tryd.prog) (e := 3) (z := .int .i64 0) (size := 1) (bytes := 8) (by kernel_rfl)
  have hn : (intVals l)[0]? = some (.int .i64 (Globe.nth l 0)) := by have := intVals_at (l := l) (i := 0) (by omega); rwa [List.getElem?_toArray] at this
  clear hn
  have Hl := Lib.hid hl24; have Hv := Lib.hid hv; clear hl24 hv
  have hx0 : ∀ j u, (intVals l)[j]? = some u → w.cell? ((⟨b, o, none⟩ : Addr).add j) = some u := fun j u hj => by
    have hl : j < l.length := by rw [← List.length_map (f := Value.int .i64)]; exact (List.getElem?_eq_some_iff.1 hj).1
    have e := intVals_at hl
    rw [List.getElem?_toArray, hj] at e
    cases e
    rw [Addr.add_mid]; exact H.out.1 j (by rw [← Hl.out]; exact hl)
  have Hx := Lib.hid hx0; clear hx0
  go_enter Tryd.func30, Tryd.ntmps30
  go_wp2_with (first | (go_at_call 23; refine (rValid_c _ _ H.out.aa (by (repeat' (first | (with_reducible assumption) | (with_reducible exact Ext.refl _) | (with_reducible refine Ext.alloc ?_ _) | (with_reducible refine Ext.drew ?_) | (with_reducible refine Ext.drewN ?_ _) | (with_reducible refine Ext.setCell ?_ ?_ _) | (with_reducible refine Ext.trans ?_ (by assumption)) | go_size)))).mono ?_; rintro e w1 ⟨rfl, hb⟩; have hc := hb.cellE; have hf := hb.frozenE; have hz := hb.size; have ha := alloc_keeps w1; (try simp only [World.size_alloc] at hc hf hz); (try simp only [World.size_setCell] at hc hf hz); (try simp only [World.size_drew] at hc hf hz)) | (go_at_call 16; refine (rValidCell_c _ _ _).mono ?_; rw [h1]; rintro e w4 ⟨rfl, hb4⟩; have hc4 := hb4.cellE; have hf4 := hb4.frozenE; have hz4 := hb4.size; have ha4 := alloc_keeps w4; (try simp only [World.size_alloc] at hc4 hf4 hz4); (try simp only [World.size_setCell] at hc4 hf4 hz4); (try simp only [World.size_drew] at hc4 hf4 hz4)) | (at_builtin; go_must (refine wpList_append_own _ rfl _ _ 23 rfl w4.heap.size 3 i0 (.int .i64 0) 1 8 Tryd.underlying23 hi hz0 hz1 hz2 rfl (by decide) _ 0 [] rfl (World.ownsRow_made w4 #[] 0 (Nat.le_refl _) (by unfold maxLen; omega) rfl) ⟨b, o, none⟩ 24 c (intVals l) rfl (by simp [intVals, Hl.out]) (fun j u hj => Ext.cell (by (repeat' (first | (with_reducible assumption) | (with_reducible exact Ext.refl _) | (with_reducible refine Ext.alloc ?_ _) | (with_reducible refine Ext.drew ?_) | (with_reducible refine Ext.drewN ?_ _) | (with_reducible refine Ext.setCell ?_ ?_ _) | (with_reducible refine Ext.trans ?_ (by assumption)) | go_size))) (Hx.out j u hj)) (by simp [intVals, Value.oneCell']) (by unfold maxLen; omega) (by omega) (by simp) ?_); intro v' w3 hown' hg3 hnil3; obtain ⟨g, k, rfl, hwg, hr⟩ := rows_of_own Hl.out (by simpa using hown'); have hg5 : (w4.alloc (.cells #[] 3)).grownBy w3 (some w4.heap.size) := hg3; have b6 : BoxAt w3 (w.heap.size + 1 + 1) 0 (.slice none 0 0) := BoxAt.grown hg5 (BoxAt.ext (Ext.alloc (Ext.refl _) _) (BoxAt.ext hb4 (BoxAt.ext hb ⟨by simp [go_sem], by simp [go_sem]⟩))) (by (show w.heap.size + 1 + 1 ≠ w4.heap.size); omega); have dX : w3.cell? ⟨w.heap.size + 1, 0, none⟩ = some (.int .i64 (x : Int)) := grown_cell hg5 (Ext.cell (Ext.alloc hb4 _) (hb.cell (by simp [go_sem]))) (by show w.heap.size + 1 ≠ w4.heap.size; omega); have dY : w3.cell? ⟨w.heap.size + 1, 1, none⟩ = some (.int .i64 (y : Int)) := grown_cell hg5 (Ext.cell (Ext.alloc hb4 _) (hb.cell (by simp [go_sem]))) (by show w.heap.size + 1 ≠ w4.heap.size; omega); have hE4 : Ext w w4 := (by (repeat' (first | (with_reducible assumption) | (with_reducible exact Ext.refl _) | (with_reducible refine Ext.alloc ?_ _) | (with_reducible refine Ext.drew ?_) | (with_reducible refine Ext.drewN ?_ _) | (with_reducible refine Ext.setCell ?_ ?_ _) | (with_reducible refine Ext.trans ?_ (by assumption)) | go_size))); have hE3 : Ext w w3 := Ext.grown (Ext.alloc hE4 _) hg5 (by omega); have lg2 : w.heap.size + 1 + 1 < w4.heap.size := (by omega); have hs3 : w4.heap.size < w3.heap.size := (by have := hg5.size; simp at this; omega); have ha3 := alloc_keeps w3; go_frame))
  obtain ⟨O, hO⟩ : ∃ O, O = w3.heap.size := ⟨_, rfl⟩
  rw [← hO]
  clear ha3 hc4 hf4 hz4 ha4 hc hf hz ha hb hb4 hg3 hg5 hnil3 hown'
  have hgO : g < O := by have := hr.lt; omega
  refine calls_name (fun V => Ext w V ∧ V.cell? ⟨w.heap.size + 1, 0, none⟩ = some (.int .i64 (x : Int)) ∧ V.cell? ⟨w.heap.size + 1, 1, none⟩ = some (.int .i64 (y : Int)) ∧ BoxAt V (w.heap.size + 1 + 1) 0 (.slice none 0 0) ∧ V.cell? ⟨O, 0, none⟩ = some (.slice (some ⟨g, 0, none⟩) 24 k) ∧ RowsAt V g l) ⟨Ext.alloc hE3 _, Ext.cell (Ext.alloc (Ext.refl _) _) dX, Ext.cell (Ext.alloc (Ext.refl _) _) dY, BoxAt.ext (Ext.alloc (Ext.refl _) _) b6, by rw [hO]; simp [go_sem], hr.ext (Ext.alloc (Ext.refl _) _)⟩ ?_
  clear hO hr b6 dX dY hE3 hE4
  rintro V ⟨hE, cX, cY, b6, cO, hr⟩
  have lO : O < V.heap.size := World.block_lt_of_cell? V _ cO
  have Hr := Lib.hid hr; clear hr
  refine (put_c g k l (x : Int) y _ Hr.out Hv.out hy).mono ?_
  rintro e w1 ⟨⟨v, rfl⟩, hr2, hg2⟩
  rw [modN_nat _ x rfl, Nat.mod_eq_of_lt hx] at hr2
  have dO := grown_cell hg2 cO (by show O ≠ g; omega)
  obtain ⟨d6, f6⟩ := BoxAt.grown hg2 b6 (by show w.heap.size + 1 + 1 ≠ g; omega)
  have hE2 := Ext.grown hE hg2 (by omega)
  have hr3 := hr2.other (p := ⟨w.heap.size + 1 + 1, 0, none⟩) (by show w.heap.size + 1 + 1 ≠ g; omega) (.slice (some ⟨g, 0, none⟩) 24 k)
  have hv3 := Globe.valid_put (y := y) Hv.out hx
  have H3 := Lib.hid hr3; have Hv3 := Lib.hid hv3; clear hr2 hr3 hv3 hg2
  go_wp2_with fail
  exact bodyPost_ret (v := .tuple #[.agg #[.slice (some ⟨g, 0, none⟩) 24 k], .int .i64 0]) (by simp [results, Tryd.results30, go_sem, d6]) rfl ⟨g, k, rfl, by omega, H3.out, H3.out.va Hv3.out, by (repeat' (first | (with_reducible assumption) | (with_reducible exact Ext.refl _) | (with_reducible refine Ext.alloc ?_ _) | (with_reducible refine Ext.drew ?_) | (with_reducible refine Ext.drewN ?_ _) | (with_reducible refine Ext.setCell ?_ ?_ _) | (with_reducible refine Ext.trans ?_ (by assumption)) | go_size))⟩
set_option maxHeartbeats 1000000 in
theorem rWith_n {w0 : World} {a : Option Addr} {l : List Int} {n : Nat} (c : Nat) {v : Bool} (x y : Int) (w : World) (h : AA w0 a l n v) (hE : Ext w0 w) (hv : (v && Globe.vcB x y) = false) :
    Calls Tryd.prog 30 #[.agg #[.slice a n c], .agg #[.int .i64 x, .int .i64 y]] w (RetErr w 50) := by
  replace h := h.ext hE
  clear hE
  have H := Lib.hid h; clear h
  cases v
  · clear hv
    go_enter Tryd.func30, Tryd.ntmps30
    go_wp2_with (first | (go_at_call 23; refine (rValid_c _ _ H.out (by (repeat' (first | (with_reducible assumption) | (with_reducible exact Ext.refl _) | (with_reducible refine Ext.alloc ?_ _) | (with_reducible refine Ext.drew ?_) | (with_reducible refine Ext.drewN ?_ _) | (with_reducible refine Ext.setCell ?_ ?_ _) | (with_reducible refine Ext.trans ?_ (by assumption)) | go_size)))).mono ?_; rintro e w1 ⟨rfl, hb⟩; have hc := hb.cellE; have hf := hb.frozenE; have hz := hb.size; have ha := alloc_keeps w1; (try simp only [World.size_alloc] at hc hf hz); (try simp only [World.size_setCell] at hc hf hz); (try simp only [World.size_drew] at hc hf hz)))
    ((try simp only [Exit.inBlock, Exit.then]); refine bodyPost_ret (v := .tuple #[.agg #[.slice none 0 0], .int .i64 50]) (by simp [results, Tryd.results30, go_sem, *]) rfl ?_)
    exact ⟨rfl, by (repeat' (first | (with_reducible assumption) | (with_reducible exact Ext.refl _) | (with_reducible refine Ext.alloc ?_ _) | (with_reducible refine Ext.drew ?_) | (with_reducible refine Ext.drewN ?_ _) | (with_reducible refine Ext.setCell ?_ ?_ _) | (with_reducible refine Ext.trans ?_ (by assumption)) | go_size))⟩
  · have h1 : Globe.vcB x y = false := by simpa using hv
    clear hv
    go_enter Tryd.func30, Tryd.ntmps30
    go_wp2_with (first | (go_at_call 23; refine (rValid_c _ _ H.out (by (repeat' (first | (with_reducible assumption) | (with_reducible exact Ext.refl _) | (with_reducible refine Ext.alloc ?_ _) | (with_reducible refine Ext.drew ?_) | (with_reducible refine Ext.drewN ?_ _) | (with_reducible refine Ext.setCell ?_ ?_ _) | (with_reducible refine Ext.trans ?_ (by assumption)) | go_size)))).mono ?_; rintro e w1 ⟨rfl, hb⟩; have hc := hb.cellE; have hf := hb.frozenE; have hz := hb.size; have ha := alloc_keeps w1; (try simp only [World.size_alloc] at hc hf hz); (try simp only [World.size_setCell] at hc hf hz); (try simp only [World.size_drew] at hc hf hz)) | (go_at_call 16; refine (rValidCell_c _ _ _).mono ?_; rw [h1]; rintro e w2 ⟨rfl, hb2⟩; have hc2 := hb2.cellE; have hf2 := hb2.frozenE; have hz2 := hb2.size; have ha2 := alloc_keeps w2; (try simp only [World.size_alloc] at hc2 hf2 hz2); (try simp only [World.size_setCell] at hc2 hf2 hz2); (try simp only [World.size_drew] at hc2 hf2 hz2)))
    ((try simp only [Exit.inBlock, Exit.then]); refine bodyPost_ret (v := .tuple #[.agg #[.slice none 0 0], .int .i64 50]) (by simp [results, Tryd.results30, go_sem, *]) rfl ?_)
    exact ⟨rfl, by (repeat' (first | (with_reducible assumption) | (with_reducible exact Ext.refl _) | (with_reducible refine Ext.alloc ?_ _) | (with_reducible refine Ext.drew ?_) | (with_reducible refine Ext.drewN ?_ _) | (with_reducible refine Ext.setCell ?_ ?_ _) | (with_reducible refine Ext.trans ?_ (by assumption)) | go_size))⟩
theorem rWith_c {w0 : World} {a : Option Addr} {l : List Int} {n : Nat} (c : Nat) {v : Bool} (x y : Int) (w : World) (h : AA w0 a l n v) (hE : Ext w0 w) :
    Calls Tryd.prog 30 #[.agg #[.slice a n c], .agg #[.int .i64 x, .int .i64 y]] w (RetAny w (v && Globe.vcB x y) (Globe.putL l x.toNat y.toNat) 50) := by
  cases hq : (v && Globe.vcB x y)
  · exact (rWith_n c x y w h hE hq).mono fun _ _ h => RetAny.no h
  · obtain ⟨rfl, hc⟩ := Bool.and_eq_true_iff.1 hq
    obtain ⟨b1, o1, rfl, rfl, r1⟩ := h.va
    obtain ⟨h0, h1, h2, h3⟩ := Globe.vcB_t.1 hc
    have := rWith_v c x.toNat y.toNat w r1 hE (by omega) (by omega)
    rw [Int.toNat_of_nonneg h0, Int.toNat_of_nonneg h2] at this
    exact this.mono fun _ _ h => h.any

end Go.Proofs.YtnfknekbbdfdfaaDoor

/- Contracts of the reference of package globe: joined, Union, Meet, Less, Contains. -/
namespace Go.Proofs.YtnfknekbbdfdfaaDoor
open Go.RowKit
open Globe (outTo outTo_snoc outTo_nil outTo_spec)

/-- The cells of the first rows for which f says so. -/
def rowSel (f : Nat → Nat → Bool) (y x : Nat) : List (Nat × Nat) := ((List.range x).filter fun i => f i y).map fun i => (i, y)
def selTo (f : Nat → Nat → Bool) (y : Nat) : List (Nat × Nat) := (List.range y).flatMap fun j => rowSel f j 48
theorem rowSel_zero (f : Nat → Nat → Bool) (y : Nat) : rowSel f y 0 = [] := by simp [rowSel]
theorem rowSel_yes {f : Nat → Nat → Bool} {y x : Nat} (h : f x y = true) : rowSel f y (x + 1) = rowSel f y x ++ [(x, y)] := by
  unfold rowSel; rw [List.range_succ, List.filter_append, List.map_append]; simp [h]
theorem rowSel_no {f : Nat → Nat → Bool} {y x : Nat} (h : f x y = false) : rowSel f y (x + 1) = rowSel f y x := by
  unfold rowSel; rw [List.range_succ, List.filter_append, List.map_append]; simp [h]
theorem selTo_zero (f : Nat → Nat → Bool) : selTo f 0 = [] := rfl
theorem selTo_succ (f : Nat → Nat → Bool) (y : Nat) : selTo f (y + 1) = selTo f y ++ rowSel f y 48 := by simp [selTo, List.range_succ]
theorem mem_rowSel {f : Nat → Nat → Bool} {y x : Nat} {p : Nat × Nat} : p ∈ rowSel f y x ↔ p.1 < x ∧ p.2 = y ∧ f p.1 y = true := by
  simp only [rowSel, List.mem_map, List.mem_filter, List.mem_range]
  constructor
  · rintro ⟨i, ⟨h1, h2⟩, rfl⟩; exact ⟨h1, rfl, h2⟩
  · rintro ⟨h1, h2, h3⟩; exact ⟨p.1, ⟨h1, h3⟩, by rw [← h2]⟩
theorem mem_selTo {f : Nat → Nat → Bool} {y : Nat} {p : Nat × Nat} : p ∈ selTo f y ↔ p.1 < 48 ∧ p.2 < y ∧ f p.1 p.2 = true := by
  simp only [selTo, List.mem_flatMap, List.mem_range, mem_rowSel]
  constructor
  · rintro ⟨j, hj, h1, rfl, h3⟩; exact ⟨h1, hj, h3⟩
  · rintro ⟨h1, h2, h3⟩; exact ⟨p.2, h2, h1, rfl, h3⟩
theorem sel_in {f : Nat → Nat → Bool} {y x : Nat} (hy : y < 24) (hx : x ≤ 48) : ∀ p ∈ selTo f y ++ rowSel f y x, p.1 < 48 ∧ p.2 < 24 := by
  intro p hp
  rcases List.mem_append.1 hp with hp | hp
  · obtain ⟨h1, h2, _⟩ := mem_selTo.1 hp; omega
  · obtain ⟨h1, h2, _⟩ := mem_rowSel.1 hp; omega
theorem sel_all {f : Nat → Nat → Bool} : ∀ p ∈ selTo f 24, p.1 < 48 ∧ p.2 < 24 := fun p hp => by obtain ⟨h1, h2, _⟩ := mem_selTo.1 hp; omega
theorem out_sel {f : Nat → Nat → Bool} {L : List Int} (hL : Globe.validL L = true) (h : ∀ x y, x < 48 → y < 24 → Globe.hasL L x y = f x y) : outTo (selTo f 24) = L := by
  have hs := outTo_spec _ _ rfl (sel_all (f := f))
  refine Globe.ext_has hs.1 hL fun x y hx hy => ?_
  rw [hs.2, h x y hx hy, Bool.eq_iff_iff, decide_eq_true_eq, mem_selTo]
  exact ⟨fun h => h.2.2, fun h => ⟨hx, hy, h⟩⟩
/-- What the table says. -/
def tb (t0 t1 t2 t3 a b : Bool) : Bool := match a, b with
  | false, false => t0
  | false, true => t1
  | true, false => t2
  | true, true => t3

set_option maxHeartbeats 4000000 in
theorem joined_v {w1 w2 : World} {b1 o1 b2 o2 : Nat} (c1 c2 : Nat) {l1 l2 : List Int} (t0 t1 t2 t3 : Bool) (w : World) (h1 : VA w1 b1 o1 l1) (e1 : Ext w1 w) (h2 : VA w2 b2 o2 l2) (e2 : Ext w2 w) :
    Calls Tryd.prog 61 #[.agg #[.slice (some ⟨b1, o1, none⟩) 24 c1], .agg #[.slice (some ⟨b2, o2, none⟩) 24 c2], .agg #[.bool t0, .bool t1, .bool t2, .bool t3]] w (RetV w (outTo (selTo (fun x y => tb t0 t1 t2 t3 (Globe.hasL l1 x y) (Globe.hasL l2 x y)) 24))) := by
  have H1 := Lib.hid (h1.ext e1); have H2 := Lib.hid (h2.ext e2)
  clear h1 h2 e1 e2
  obtain ⟨f, hf⟩ : ∃ f, f = (fun x y => tb t0 t1 t2 t3 (Globe.hasL l1 x y) (Globe.hasL l2 x y)) := ⟨_, rfl⟩
  rw [← hf]
  have HF := Lib.hid hf; clear hf
  go_enter Tryd.func61, Tryd.ntmps61
  go_wp2_with (first | (go_at_call 23; refine (rValid_c _ _ (by first | exact H1.out.aa | exact H2.out.aa) (by (repeat' (first | (with_reducible assumption) | (with_reducible exact Ext.refl _) | (with_reducible refine Ext.alloc ?_ _) | (with_reducible refine Ext.drew ?_) | (with_reducible refine Ext.drewN ?_ _) | (with_reducible refine Ext.setCell ?_ ?_ _) | (with_reducible refine Ext.trans ?_ (by assumption)) | go_size)))).mono ?_; rintro e w4 ⟨rfl, hb4⟩; have hc4 := hb4.cellE; have hf4 := hb4.frozenE; have hz4 := hb4.size; have ha4 := alloc_keeps w4; (try simp only [World.size_alloc] at hc4 hf4 hz4); (try simp only [World.size_setCell] at hc4 hf4 hz4); (try simp only [World.size_drew] at hc4 hf4 hz4)) | (go_at_call 47; refine (rEmpty_c _).mono ?_; rintro e w3 ⟨B, rfl, hB, hr, hb3⟩; have hc3 := hb3.cellE; have hf3 := hb3.frozenE; have hz3 := hb3.size; have ha3 := alloc_keeps w3; (try simp only [World.size_alloc] at hc3 hf3 hz3); (try simp only [World.size_setCell] at hc3 hf3 hz3); (try simp only [World.size_drew] at hc3 hf3 hz3)))
  obtain ⟨O, hO⟩ : ∃ O, O = w3.heap.size := ⟨_, rfl⟩
  rw [← hO]
  have hwB : w.heap.size + 1 + 1 + 1 < B := by omega
  have hBO : B < O := by have := hr.lt; omega
  refine wp_name (fun V => Ext w V ∧ V.cell? ⟨w.heap.size, 0, none⟩ = some (.slice (some ⟨b1, o1, none⟩) 24 c1) ∧ V.cell? ⟨w.heap.size + 1, 0, none⟩ = some (.slice (some ⟨b2, o2, none⟩) 24 c2) ∧ V.cell? ⟨w.heap.size + 1 + 1, 0, none⟩ = some (.bool t0) ∧ V.cell? ⟨w.heap.size + 1 + 1, 1, none⟩ = some (.bool t1) ∧ V.cell? ⟨w.heap.size + 1 + 1, 2, none⟩ = some (.bool t2) ∧ V.cell? ⟨w.heap.size + 1 + 1, 3, none⟩ = some (.bool t3) ∧ BoxAt V (w.heap.size + 1 + 1 + 1) 0 (.slice none 0 0) ∧ V.cell? ⟨O, 0, none⟩ = some (.slice (some ⟨B, 0, none⟩) 24 24) ∧ RowsAt V B (outTo (selTo f 0))) ⟨by (repeat' (first | (with_reducible assumption) | (with_reducible exact Ext.refl _) | (with_reducible refine Ext.alloc ?_ _) | (with_reducible refine Ext.drew ?_) | (with_reducible refine Ext.drewN ?_ _) | (with_reducible refine Ext.setCell ?_ ?_ _) | (with_reducible refine Ext.trans ?_ (by assumption)) | go_size)), ?_, ?_, ?_, ?_, ?_, ?_, ?_, by rw [hO]; simp [go_sem], hr.ext (by (repeat' (first | (with_reducible assumption) | (with_reducible exact Ext.refl _) | (with_reducible refine Ext.alloc ?_ _) | (with_reducible refine Ext.drew ?_) | (with_reducible refine Ext.drewN ?_ _) | (with_reducible refine Ext.setCell ?_ ?_ _) | (with_reducible refine Ext.trans ?_ (by assumption)) | go_size)))⟩ ?_
  · (repeat' (first | (with_reducible assumption) | (simp [go_sem]; done) | (with_reducible refine Ext.cell (Ext.alloc (Ext.refl _) _) ?_) | (with_reducible refine Ext.cell (by with_reducible assumption) ?_)))
  · (repeat' (first | (with_reducible assumption) | (simp [go_sem]; done) | (with_reducible refine Ext.cell (Ext.alloc (Ext.refl _) _) ?_) | (with_reducible refine Ext.cell (by with_reducible assumption) ?_)))
  · (repeat' (first | (with_reducible assumption) | (simp [go_sem]; done) | (with_reducible refine Ext.cell (Ext.alloc (Ext.refl _) _) ?_) | (with_reducible refine Ext.cell (by with_reducible assumption) ?_)))
  · (repeat' (first | (with_reducible assumption) | (simp [go_sem]; done) | (with_reducible refine Ext.cell (Ext.alloc (Ext.refl _) _) ?_) | (with_reducible refine Ext.cell (by with_reducible assumption) ?_)))
  · (repeat' (first | (with_reducible assumption) | (simp [go_sem]; done) | (with_reducible refine Ext.cell (Ext.alloc (Ext.refl _) _) ?_) | (with_reducible refine Ext.cell (by with_reducible assumption) ?_)))
  · (repeat' (first | (with_reducible assumption) | (simp [go_sem]; done) | (with_reducible refine Ext.cell (Ext.alloc (Ext.refl _) _) ?_) | (with_reducible refine Ext.cell (by with_reducible assumption) ?_)))
  · (repeat' (first | (with_reducible assumption) | (exact ⟨by simp [go_sem], by simp [go_sem]⟩) | (with_reducible refine BoxAt.ext (Ext.alloc (Ext.refl _) _) ?_) | (with_reducible refine BoxAt.ext (by with_reducible assumption) ?_)))
  clear hO hB hr hb3 hc3 hf3 hz3 ha3 hb4 hc4 hf4 hz4 ha4
  clear hb4 hc4 hf4 hz4 ha4
  rintro V ⟨hE, cA, cB, cT0, cT1, cT2, cT3, b6, cO, hr⟩
  have lO : O < V.heap.size := World.block_lt_of_cell? V _ cO
  have HV1 := Lib.hid (H1.out.ext hE); have HV2 := Lib.hid (H2.out.ext hE)
  have lb1 := HV1.out.lt; have lb2 := HV2.out.lt
  have nb1 : b1 < w.heap.size := H1.out.lt
  have nb2 : b2 < w.heap.size := H2.out.lt
  go_loopw [9] (fun p wr => ∃ y : Nat, y ≤ 24 ∧ p = .int .i64 y ∧ RowsAt wr B (outTo (selTo f y)) ∧ V.grownBy wr (some B)) (fun p _ => 24 - (intOf p).toNat)
  case atStart => exact ⟨0, by omega, rfl, hr, grown_refl _ _⟩
  case round =>
    clear hr
    obtain ⟨y, hy, rfl, hr, hg⟩ := hrel
    have Hr := Lib.hid hr; clear hr
    by_cases hlt : y < 24
    · have y1 : (y : Int) < 24 := by omega
      go_wp2_with fail
      go_loopw [10] (fun p wr => ∃ x : Nat, x ≤ 48 ∧ p = .int .i64 x ∧ RowsAt wr B (outTo (selTo f y ++ rowSel f y x)) ∧ V.grownBy wr (some B)) (fun p _ => 48 - (intOf p).toNat)
      case atStart => exact ⟨0, by omega, rfl, by rw [rowSel_zero, List.append_nil]; exact Hr.out, hg⟩
      case round =>
        clear hg
        obtain ⟨x, hx, rfl, hr, hg⟩ := hrel
        have Hr := Lib.hid hr; clear hr
        by_cases hlx : x < 48
        · have x1 : (x : Int) < 48 := by omega
          have hsz := hg.size
          have dA := grown_cell hg cA (by show w.heap.size ≠ B; omega)
          have dB := grown_cell hg cB (by show w.heap.size + 1 ≠ B; omega)
          have v1 : VA wr b1 o1 l1 := ⟨fun i hi => grown_cell hg (HV1.out.1 i hi) (by show b1 ≠ B; omega), HV1.out.2⟩
          have v2 : VA wr b2 o2 l2 := ⟨fun i hi => grown_cell hg (HV2.out.1 i hi) (by show b2 ≠ B; omega), HV2.out.2⟩
          have dT0 := grown_cell hg cT0 (by show w.heap.size + 1 + 1 ≠ B; omega)
          have dT1 := grown_cell hg cT1 (by show w.heap.size + 1 + 1 ≠ B; omega)
          have dT2 := grown_cell hg cT2 (by show w.heap.size + 1 + 1 ≠ B; omega)
          have dT3 := grown_cell hg cT3 (by show w.heap.size + 1 + 1 ≠ B; omega)
          have dO := grown_cell hg cO (by show O ≠ B; omega)
          have HW1 := Lib.hid v1; have HW2 := Lib.hid v2; clear v1 v2
          have lO2 : O < wr.heap.size := World.block_lt_of_cell? wr _ dO
          have hfx : f x y = tb t0 t1 t2 t3 (Globe.hasL l1 x y) (Globe.hasL l2 x y) := by rw [HF.out]
          have hin := sel_in (f := f) (y := y) (x := x) hlt hx
          have Hin := Lib.hid hin; clear hin
          obtain ⟨ha, hha⟩ : ∃ r, Globe.hasL l1 x y = r := ⟨_, rfl⟩
          obtain ⟨hb, hhb⟩ : ∃ r, Globe.hasL l2 x y = r := ⟨_, rfl⟩
          rw [hha, hhb] at hfx
          have HHA := Lib.hid hha; have HHB := Lib.hid hhb; clear hha hhb
          obtain ⟨tv, htv⟩ : ∃ r, tb t0 t1 t2 t3 ha hb = r := ⟨_, rfl⟩
          rw [htv] at hfx
          have HFX := Lib.hid hfx; clear hfx
          cases ha <;> cases hb
          all_goals
            dsimp only [tb] at htv
            subst htv
            go_wp2_with fail
            refine (rhas_v c1 _ HW1.out (Ext.refl _) hlx hlt HHA.out).mono ?_
            rintro e w4 ⟨rfl, hb4⟩
            have hc4 := hb4.cellE; have hf4 := hb4.frozenE; have hz4 := hb4.size; have ha4 := alloc_keeps w4; (try simp only [World.size_alloc] at hc4 hf4 hz4); (try simp only [World.size_setCell] at hc4 hf4 hz4); (try simp only [World.size_drew] at hc4 hf4 hz4)
            go_wp2_with fail
            refine (rhas_v c2 _ HW2.out hb4 hlx hlt HHB.out).mono ?_
            rintro e w5 ⟨rfl, hb5⟩
            have hx5 := hb4.trans hb5
            have dT0' := hx5.cell dT0; have dT1' := hx5.cell dT1; have dT2' := hx5.cell dT2; have dT3' := hx5.cell dT3; have dO' := hx5.cell dO
            clear hc4 hf4 hz4 ha4 dT0 dT1 dT2 dT3 dO dA dB
            have hg5 := grown_ext hg hx5
            have Hr5 := Lib.hid (Hr.out.ext hx5)
            obtain ⟨fv, hfv⟩ : ∃ r, f x y = r := ⟨_, rfl⟩
            have e := HFX.out
            rw [hfv] at e
            have HFV := Lib.hid hfv
            clear hfv HFX HF
            subst e
            cases fv
            · go_wp2_with fail
              go_roundw
              case rel => exact ⟨x + 1, by omega, by go_num, by rw [rowSel_no HFV.out]; exact Hr5.out, hg5⟩
              case measure => simp [intOf]; omega
            · go_wp2_with fail
              refine (put_r 24 _ _ _ Hr5.out Hin.out (Y := y) rfl hlt).mono ?_
              rintro e w6 ⟨⟨v, rfl⟩, hr2, hg2⟩
              rw [modN_nat _ x rfl, Nat.mod_eq_of_lt hlx, List.append_assoc, ← rowSel_yes HFV.out] at hr2
              have Hr2 := Lib.hid hr2; clear hr2
              go_wp2_with fail
              go_roundw
              case rel => exact ⟨x + 1, by omega, by go_num, Hr2.out, grown_trans hg5 hg2⟩
              case measure => simp [intOf]; omega
        · obtain rfl : x = 48 := by omega
          go_wp2_with fail
          go_roundw
          case rel => exact ⟨y + 1, by omega, by go_num, by rw [selTo_succ]; exact Hr.out, hg⟩
          case measure => simp [intOf]; omega
    · obtain rfl : y = 24 := by omega
      have dO := grown_cell hg cO (by show O ≠ B; omega)
      obtain ⟨d6, f6⟩ := BoxAt.grown hg b6 (by show w.heap.size + 1 + 1 + 1 ≠ B; omega)
      have hE2 := Ext.grown hE hg (by omega)
      have hr3 := Hr.out.other (p := ⟨w.heap.size + 1 + 1 + 1, 0, none⟩) (by show w.heap.size + 1 + 1 + 1 ≠ B; omega) (.slice (some ⟨B, 0, none⟩) 24 24)
      have hv3 := (outTo_spec _ _ rfl (sel_all (f := f))).1
      have H3 := Lib.hid hr3; have Hv3 := Lib.hid hv3; clear hr3 hv3 hg
      go_wp2_with fail
      exact bodyPost_ret (v := .tuple #[.agg #[.slice (some ⟨B, 0, none⟩) 24 24], .int .i64 0]) (by simp [results, Tryd.results61, go_sem, d6]) rfl ⟨B, 24, rfl, by omega, H3.out, H3.out.va Hv3.out, by (repeat' (first | (with_reducible assumption) | (with_reducible exact Ext.refl _) | (with_reducible refine Ext.alloc ?_ _) | (with_reducible refine Ext.drew ?_) | (with_reducible refine Ext.drewN ?_ _) | (with_reducible refine Ext.setCell ?_ ?_ _) | (with_reducible refine Ext.trans ?_ (by assumption)) | go_size))⟩

theorem joined_n {w1 w2 : World} {a1 : Option Addr} {l1 : List Int} {n1 : Nat} (c1 : Nat) {v1 : Bool} {a2 : Option Addr} {l2 : List Int} {n2 : Nat} (c2 : Nat) {v2 : Bool} (t0 t1 t2 t3 : Bool) (w : World) (h1 : AA w1 a1 l1 n1 v1) (e1 : Ext w1 w) (h2 : AA w2 a2 l2 n2 v2) (e2 : Ext w2 w) (hv : (v1 && v2) = false) :
    Calls Tryd.prog 61 #[.agg #[.slice a1 n1 c1], .agg #[.slice a2 n2 c2], .agg #[.bool t0, .bool t1, .bool t2, .bool t3]] w (RetErr w 50) := by
  have H1 := Lib.hid (h1.ext e1); have H2 := Lib.hid (h2.ext e2)
  clear h1 h2 e1 e2
  cases v1
  · clear hv
    go_enter Tryd.func61, Tryd.ntmps61
    go_wp2_with (go_at_call 23; refine (rValid_c _ _ H1.out (by (repeat' (first | (with_reducible assumption) | (with_reducible exact Ext.refl _) | (with_reducible refine Ext.alloc ?_ _) | (with_reducible refine Ext.drew ?_) | (with_reducible refine Ext.drewN ?_ _) | (with_reducible refine Ext.setCell ?_ ?_ _) | (with_reducible refine Ext.trans ?_ (by assumption)) | go_size)))).mono ?_; rintro e w1 ⟨rfl, hb⟩; have hc := hb.cellE; have hf := hb.frozenE; have hz := hb.size; have ha := alloc_keeps w1; (try simp only [World.size_alloc] at hc hf hz); (try simp only [World.size_setCell] at hc hf hz); (try simp only [World.size_drew] at hc hf hz))
    ((try simp only [Exit.inBlock, Exit.then]); refine bodyPost_ret (v := .tuple #[.agg #[.slice none 0 0], .int .i64 50]) (by simp [results, Tryd.results61, go_sem, *]) rfl ?_)
    exact ⟨rfl, by (repeat' (first | (with_reducible assumption) | (with_reducible exact Ext.refl _) | (with_reducible refine Ext.alloc ?_ _) | (with_reducible refine Ext.drew ?_) | (with_reducible refine Ext.drewN ?_ _) | (with_reducible refine Ext.setCell ?_ ?_ _) | (with_reducible refine Ext.trans ?_ (by assumption)) | go_size))⟩
  · obtain rfl : v2 = false := by simpa using hv
    clear hv
    go_enter Tryd.func61, Tryd.ntmps61
    go_wp2_with (first | (go_at_call 23; (with_reducible refine (rValid_c _ _ H1.out (by (repeat' (first | (with_reducible assumption) | (with_reducible exact Ext.refl _) | (with_reducible refine Ext.alloc ?_ _) | (with_reducible refine Ext.drew ?_) | (with_reducible refine Ext.drewN ?_ _) | (with_reducible refine Ext.setCell ?_ ?_ _) | (with_reducible refine Ext.trans ?_ (by assumption)) | go_size)))).mono ?_); rintro e w1 ⟨rfl, hb⟩; have hc := hb.cellE; have hf := hb.frozenE; have hz := hb.size; have ha := alloc_keeps w1; (try simp only [World.size_alloc] at hc hf hz); (try simp only [World.size_setCell] at hc hf hz); (try simp only [World.size_drew] at hc hf hz)) | (go_at_call 23; refine (rValid_c _ _ H2.out (by (repeat' (first | (with_reducible assumption) | (with_reducible exact Ext.refl _) | (with_reducible refine Ext.alloc ?_ _) | (with_reducible refine Ext.drew ?_) | (with_reducible refine Ext.drewN ?_ _) | (with_reducible refine Ext.setCell ?_ ?_ _) | (with_reducible refine Ext.trans ?_ (by assumption)) | go_size)))).mono ?_; rintro e w2 ⟨rfl, hb2⟩; have hc2 := hb2.cellE; have hf2 := hb2.frozenE; have hz2 := hb2.size; have ha2 := alloc_keeps w2; (try simp only [World.size_alloc] at hc2 hf2 hz2); (try simp only [World.size_setCell] at hc2 hf2 hz2); (try simp only [World.size_drew] at hc2 hf2 hz2)))
    ((try simp only [Exit.inBlock, Exit.then]); refine bodyPost_ret (v := .tuple #[.agg #[.slice none 0 0], .int .i64 50]) (by simp [results, Tryd.results61, go_sem, *]) rfl ?_)
    exact ⟨rfl, by (repeat' (first | (with_reducible assumption) | (with_reducible exact Ext.refl _) | (with_reducible refine Ext.alloc ?_ _) | (with_reducible refine Ext.drew ?_) | (with_reducible refine Ext.drewN ?_ _) | (with_reducible refine Ext.setCell ?_ ?_ _) | (with_reducible refine Ext.trans ?_ (by assumption)) | go_size))⟩
theorem rUnion_v {w1 w2 : World} {b1 o1 b2 o2 : Nat} (c1 c2 : Nat) {l1 l2 : List Int} (w : World) (h1 : VA w1 b1 o1 l1) (e1 : Ext w1 w) (h2 : VA w2 b2 o2 l2) (e2 : Ext w2 w) :
    Calls Tryd.prog 38 #[.agg #[.slice (some ⟨b1, o1, none⟩) 24 c1], .agg #[.slice (some ⟨b2, o2, none⟩) 24 c2]] w (RetV w (Globe.unionL l1 l2)) := by
  replace h1 := h1.ext e1
  replace h2 := h2.ext e2
  clear e1 e2
  have hs : outTo (selTo (fun x y => tb false true true true (Globe.hasL l1 x y) (Globe.hasL l2 x y)) 24) = Globe.unionL l1 l2 := out_sel (Globe.union_valid h1.2 h2.2) fun x y hx hy => by
    rw [Globe.has_union hy]; cases Globe.hasL l1 x y <;> cases Globe.hasL l2 x y <;> rfl
  have H1 := Lib.hid h1; have H2 := Lib.hid h2; have HS := Lib.hid hs; have HV := Lib.hid (Globe.union_valid h1.2 h2.2); clear h1 h2 hs
  go_enter Tryd.func38, Tryd.ntmps38
  go_wp2_with (go_at_call 61; refine (joined_v _ _ _ _ _ _ _ H1.out (by (repeat' (first | (with_reducible assumption) | (with_reducible exact Ext.refl _) | (with_reducible refine Ext.alloc ?_ _) | (with_reducible refine Ext.drew ?_) | (with_reducible refine Ext.drewN ?_ _) | (with_reducible refine Ext.setCell ?_ ?_ _) | (with_reducible refine Ext.trans ?_ (by assumption)) | go_size))) H2.out (by (repeat' (first | (with_reducible assumption) | (with_reducible exact Ext.refl _) | (with_reducible refine Ext.alloc ?_ _) | (with_reducible refine Ext.drew ?_) | (with_reducible refine Ext.drewN ?_ _) | (with_reducible refine Ext.setCell ?_ ?_ _) | (with_reducible refine Ext.trans ?_ (by assumption)) | go_size)))).mono ?_; rw [HS.out]; rintro e w1 ⟨B, k, rfl, hB, hr, hv, hb⟩; have hc := hb.cellE; have hf := hb.frozenE; have hz := hb.size; have ha := alloc_keeps w1; (try simp only [World.size_alloc] at hc hf hz); (try simp only [World.size_setCell] at hc hf hz); (try simp only [World.size_drew] at hc hf hz))
  have hne : w.heap.size + 1 + 1 ≠ B := by first | omega | (simp at hB; omega)
  have hr3 := hr.other (p := ⟨w.heap.size + 1 + 1, 0, none⟩) hne (.slice (some ⟨B, 0, none⟩) 24 k)
  refine bodyPost_ret (v := .tuple #[.agg #[.slice (some ⟨B, 0, none⟩) 24 k], .int .i64 0]) (by simp [results, Tryd.results38, go_sem, hc]) rfl ⟨B, k, rfl, by first | omega | (simp at hB; omega), hr3, hr3.va HV.out, by (repeat' (first | (with_reducible assumption) | (with_reducible exact Ext.refl _) | (with_reducible refine Ext.alloc ?_ _) | (with_reducible refine Ext.drew ?_) | (with_reducible refine Ext.drewN ?_ _) | (with_reducible refine Ext.setCell ?_ ?_ _) | (with_reducible refine Ext.trans ?_ (by assumption)) | go_size))⟩
theorem rUnion_n {w1 w2 : World} {a1 : Option Addr} {l1 : List Int} {n1 : Nat} (c1 : Nat) {v1 : Bool} {a2 : Option Addr} {l2 : List Int} {n2 : Nat} (c2 : Nat) {v2 : Bool} (w : World) (h1 : AA w1 a1 l1 n1 v1) (e1 : Ext w1 w) (h2 : AA w2 a2 l2 n2 v2) (e2 : Ext w2 w) (hv : (v1 && v2) = false) :
    Calls Tryd.prog 38 #[.agg #[.slice a1 n1 c1], .agg #[.slice a2 n2 c2]] w (RetErr w 50) := by
  have H1 := Lib.hid (h1.ext e1); have H2 := Lib.hid (h2.ext e2)
  clear h1 h2 e1 e2
  go_enter Tryd.func38, Tryd.ntmps38
  go_wp2_with (go_at_call 61; refine (joined_n _ _ _ _ _ _ _ H1.out (by (repeat' (first | (with_reducible assumption) | (with_reducible exact Ext.refl _) | (with_reducible refine Ext.alloc ?_ _) | (with_reducible refine Ext.drew ?_) | (with_reducible refine Ext.drewN ?_ _) | (with_reducible refine Ext.setCell ?_ ?_ _) | (with_reducible refine Ext.trans ?_ (by assumption)) | go_size))) H2.out (by (repeat' (first | (with_reducible assumption) | (with_reducible exact Ext.refl _) | (with_reducible refine Ext.alloc ?_ _) | (with_reducible refine Ext.drew ?_) | (with_reducible refine Ext.drewN ?_ _) | (with_reducible refine Ext.setCell ?_ ?_ _) | (with_reducible refine Ext.trans ?_ (by assumption)) | go_size))) hv).mono ?_; rintro e w1 ⟨rfl, hb⟩; have hc := hb.cellE; have hf := hb.frozenE; have hz := hb.size; have ha := alloc_keeps w1; (try simp only [World.size_alloc] at hc hf hz); (try simp only [World.size_setCell] at hc hf hz); (try simp only [World.size_drew] at hc hf hz))
  ((try simp only [Exit.inBlock, Exit.then]); refine bodyPost_ret (v := .tuple #[.agg #[.slice none 0 0], .int .i64 50]) (by simp [results, Tryd.results38, go_sem, *]) rfl ?_)
  exact ⟨rfl, by (repeat' (first | (with_reducible assumption) | (with_reducible exact Ext.refl _) | (with_reducible refine Ext.alloc ?_ _) | (with_reducible refine Ext.drew ?_) | (with_reducible refine Ext.drewN ?_ _) | (with_reducible refine Ext.setCell ?_ ?_ _) | (with_reducible refine Ext.trans ?_ (by assumption)) | go_size))⟩
theorem rUnion_c {w1 w2 : World} {a1 : Option Addr} {l1 : List Int} {n1 : Nat} (c1 : Nat) {v1 : Bool} {a2 : Option Addr} {l2 : List Int} {n2 : Nat} (c2 : Nat) {v2 : Bool} (w : World) (h1 : AA w1 a1 l1 n1 v1) (e1 : Ext w1 w) (h2 : AA w2 a2 l2 n2 v2) (e2 : Ext w2 w) :
    Calls Tryd.prog 38 #[.agg #[.slice a1 n1 c1], .agg #[.slice a2 n2 c2]] w (RetAny w (v1 && v2) (Globe.unionL l1 l2) 50) := by
  replace h1 := h1.ext e1
  replace h2 := h2.ext e2
  cases hq : (v1 && v2)
  · exact (rUnion_n c1 c2 w h1 (Ext.refl _) h2 (Ext.refl _) hq).mono fun _ _ h => RetAny.no h
  · obtain ⟨rfl, rfl⟩ := Bool.and_eq_true_iff.1 hq
    obtain ⟨b1, o1, rfl, rfl, r1⟩ := h1.va
    obtain ⟨b2, o2, rfl, rfl, r2⟩ := h2.va
    exact (rUnion_v c1 c2 w r1 (Ext.refl _) r2 (Ext.refl _)).mono fun _ _ h => h.any
theorem rMeet_v {w1 w2 : World} {b1 o1 b2 o2 : Nat} (c1 c2 : Nat) {l1 l2 : List Int} (w : World) (h1 : VA w1 b1 o1 l1) (e1 : Ext w1 w) (h2 : VA w2 b2 o2 l2) (e2 : Ext w2 w) :
    Calls Tryd.prog 40 #[.agg #[.slice (some ⟨b1, o1, none⟩) 24 c1], .agg #[.slice (some ⟨b2, o2, none⟩) 24 c2]] w (RetV w (Globe.meetL l1 l2)) := by
  replace h1 := h1.ext e1
  replace h2 := h2.ext e2
  clear e1 e2
  have hs : outTo (selTo (fun x y => tb false false false true (Globe.hasL l1 x y) (Globe.hasL l2 x y)) 24) = Globe.meetL l1 l2 := out_sel (Globe.meet_valid (b := l2) h1.2) fun x y hx hy => by
    rw [Globe.has_meet hy]; cases Globe.hasL l1 x y <;> cases Globe.hasL l2 x y <;> rfl
  have H1 := Lib.hid h1; have H2 := Lib.hid h2; have HS := Lib.hid hs; have HV := Lib.hid (Globe.meet_valid (b := l2) h1.2); clear h1 h2 hs
  go_enter Tryd.func40, Tryd.ntmps40
  go_wp2_with (go_at_call 61; refine (joined_v _ _ _ _ _ _ _ H1.out (by (repeat' (first | (with_reducible assumption) | (with_reducible exact Ext.refl _) | (with_reducible refine Ext.alloc ?_ _) | (with_reducible refine Ext.drew ?_) | (with_reducible refine Ext.drewN ?_ _) | (with_reducible refine Ext.setCell ?_ ?_ _) | (with_reducible refine Ext.trans ?_ (by assumption)) | go_size))) H2.out (by (repeat' (first | (with_reducible assumption) | (with_reducible exact Ext.refl _) | (with_reducible refine Ext.alloc ?_ _) | (with_reducible refine Ext.drew ?_) | (with_reducible refine Ext.drewN ?_ _) | (with_reducible refine Ext.setCell ?_ ?_ _) | (with_reducible refine Ext.trans ?_ (by assumption)) | go_size)))).mono ?_; rw [HS.out]; rintro e w1 ⟨B, k, rfl, hB, hr, hv, hb⟩; have hc := hb.cellE; have hf := hb.frozenE; have hz := hb.size; have ha := alloc_keeps w1; (try simp only [World.size_alloc] at hc hf hz); (try simp only [World.size_setCell] at hc hf hz); (try simp only [World.size_drew] at hc hf hz))
  have hne : w.heap.size + 1 + 1 ≠ B := by first | omega | (simp at hB; omega)
  have hr3 := hr.other (p := ⟨w.heap.size + 1 + 1, 0, none⟩) hne (.slice (some ⟨B, 0, none⟩) 24 k)
  refine bodyPost_ret (v := .tuple #[.agg #[.slice (some ⟨B, 0, none⟩) 24 k], .int .i64 0]) (by simp [results, Tryd.results40, go_sem, hc]) rfl ⟨B, k, rfl, by first | omega | (simp at hB; omega), hr3, hr3.va HV.out, by (repeat' (first | (with_reducible assumption) | (with_reducible exact Ext.refl _) | (with_reducible refine Ext.alloc ?_ _) | (with_reducible refine Ext.drew ?_) | (with_reducible refine Ext.drewN ?_ _) | (with_reducible refine Ext.setCell ?_ ?_ _) | (with_reducible refine Ext.trans ?_ (by assumption)) | go_size))⟩
theorem rMeet_n {w1 w2 : World} {a1 : Option Addr} {l1 : List Int} {n1 : Nat} (c1 : Nat) {v1 : Bool} {a2 : Option Addr} {l2 : List Int} {n2 : Nat} (c2 : Nat) {v2 : Bool} (w : World) (h1 : AA w1 a1 l1 n1 v1) (e1 : Ext w1 w) (h2 : AA w2 a2 l2 n2 v2) (e2 : Ext w2 w) (hv : (v1 && v2) = false) :
    Calls Tryd.prog 40 #[.agg #[.slice a1 n1 c1], .agg #[.slice a2 n2 c2]] w (RetErr w 50) := by
  have H1 := Lib.hid (h1.ext e1); have H2 := Lib.hid (h2.ext e2)
  clear h1 h2 e1 e2
  go_enter Tryd.func40, Tryd.ntmps40
  go_wp2_with (go_at_call 61; refine (joined_n _ _ _ _ _ _ _ H1.out (by (repeat' (first | (with_reducible assumption) | (with_reducible exact Ext.refl _) | (with_reducible refine Ext.alloc ?_ _) | (with_reducible refine Ext.drew ?_) | (with_reducible refine Ext.drewN ?_ _) | (with_reducible refine Ext.setCell ?_ ?_ _) | (with_reducible refine Ext.trans ?_ (by assumption)) | go_size))) H2.out (by (repeat' (first | (with_reducible assumption) | (with_reducible exact Ext.refl _) | (with_reducible refine Ext.alloc ?_ _) | (with_reducible refine Ext.drew ?_) | (with_reducible refine Ext.drewN ?_ _) | (with_reducible refine Ext.setCell ?_ ?_ _) | (with_reducible refine Ext.trans ?_ (by assumption)) | go_size))) hv).mono ?_; rintro e w1 ⟨rfl, hb⟩; have hc := hb.cellE; have hf := hb.frozenE; have hz := hb.size; have ha := alloc_keeps w1; (try simp only [World.size_alloc] at hc hf hz); (try simp only [World.size_setCell] at hc hf hz); (try simp only [World.size_drew] at hc hf hz))
  ((try simp only [Exit.inBlock, Exit.then]); refine bodyPost_ret (v := .tuple #[.agg #[.slice none 0 0], .int .i64 50]) (by simp [results, Tryd.results40, go_sem, *]) rfl ?_)
  exact ⟨rfl, by (repeat' (first | (with_reducible assumption) | (with_reducible exact Ext.refl _) | (with_reducible refine Ext.alloc ?_ _) | (with_reducible refine Ext.drew ?_) | (with_reducible refine Ext.drewN ?_ _) | (with_reducible refine Ext.setCell ?_ ?_ _) | (with_reducible refine Ext.trans ?_ (by assumption)) | go_size))⟩
theorem rMeet_c {w1 w2 : World} {a1 : Option Addr} {l1 : List Int} {n1 : Nat} (c1 : Nat) {v1 : Bool} {a2 : Option Addr} {l2 : List Int} {n2 : Nat} (c2 : Nat) {v2 : Bool} (w : World) (h1 : AA w1 a1 l1 n1 v1) (e1 : Ext w1 w) (h2 : AA w2 a2 l2 n2 v2) (e2 : Ext w2 w) :
    Calls Tryd.prog 40 #[.agg #[.slice a1 n1 c1], .agg #[.slice a2 n2 c2]] w (RetAny w (v1 && v2) (Globe.meetL l1 l2) 50) := by
  replace h1 := h1.ext e1
  replace h2 := h2.ext e2
  cases hq : (v1 && v2)
  · exact (rMeet_n c1 c2 w h1 (Ext.refl _) h2 (Ext.refl _) hq).mono fun _ _ h => RetAny.no h
  · obtain ⟨rfl, rfl⟩ := Bool.and_eq_true_iff.1 hq
    obtain ⟨b1, o1, rfl, rfl, r1⟩ := h1.va
    obtain ⟨b2, o2, rfl, rfl, r2⟩ := h2.va
    exact (rMeet_v c1 c2 w r1 (Ext.refl _) r2 (Ext.refl _)).mono fun _ _ h => h.any
theorem rLess_v {w1 w2 : World} {b1 o1 b2 o2 : Nat} (c1 c2 : Nat) {l1 l2 : List Int} (w : World) (h1 : VA w1 b1 o1 l1) (e1 : Ext w1 w) (h2 : VA w2 b2 o2 l2) (e2 : Ext w2 w) :
    Calls Tryd.prog 42 #[.agg #[.slice (some ⟨b1, o1, none⟩) 24 c1], .agg #[.slice (some ⟨b2, o2, none⟩) 24 c2]] w (RetV w (Globe.lessL l1 l2)) := by
  replace h1 := h1.ext e1
  replace h2 := h2.ext e2
  clear e1 e2
  have hs : outTo (selTo (fun x y => tb false false true false (Globe.hasL l1 x y) (Globe.hasL l2 x y)) 24) = Globe.lessL l1 l2 := out_sel (Globe.less_valid (b := l2) h1.2) fun x y hx hy => by
    rw [Globe.has_less hy]; cases Globe.hasL l1 x y <;> cases Globe.hasL l2 x y <;> rfl
  have H1 := Lib.hid h1; have H2 := Lib.hid h2; have HS := Lib.hid hs; have HV := Lib.hid (Globe.less_valid (b := l2) h1.2); clear h1 h2 hs
  go_enter Tryd.func42, Tryd.ntmps42
  go_wp2_with (go_at_call 61; refine (joined_v _ _ _ _ _ _ _ H1.out (by (repeat' (first | (with_reducible assumption) | (with_reducible exact Ext.refl _) | (with_reducible refine Ext.alloc ?_ _) | (with_reducible refine Ext.drew ?_) | (with_reducible refine Ext.drewN ?_ _) | (with_reducible refine Ext.setCell ?_ ?_ _) | (with_reducible refine Ext.trans ?_ (by assumption)) | go_size))) H2.out (by (repeat' (first | (with_reducible assumption) | (with_reducible exact Ext.refl _) | (with_reducible refine Ext.alloc ?_ _) | (with_reducible refine Ext.drew ?_) | (with_reducible refine Ext.drewN ?_ _) | (with_reducible refine Ext.setCell ?_ ?_ _) | (with_reducible refine Ext.trans ?_ (by assumption)) | go_size)))).mono ?_; rw [HS.out]; rintro e w1 ⟨B, k, rfl, hB, hr, hv, hb⟩; have hc := hb.cellE; have hf := hb.frozenE; have hz := hb.size; have ha := alloc_keeps w1; (try simp only [World.size_alloc] at hc hf hz); (try simp only [World.size_setCell] at hc hf hz); (try simp only [World.size_drew] at hc hf hz))
  have hne : w.heap.size + 1 + 1 ≠ B := by first | omega | (simp at hB; omega)
  have hr3 := hr.other (p := ⟨w.heap.size + 1 + 1, 0, none⟩) hne (.slice (some ⟨B, 0, none⟩) 24 k)
  refine bodyPost_ret (v := .tuple #[.agg #[.slice (some ⟨B, 0, none⟩) 24 k], .int .i64 0]) (by simp [results, Tryd.results42, go_sem, hc]) rfl ⟨B, k, rfl, by first | omega | (simp at hB; omega), hr3, hr3.va HV.out, by (repeat' (first | (with_reducible assumption) | (with_reducible exact Ext.refl _) | (with_reducible refine Ext.alloc ?_ _) | (with_reducible refine Ext.drew ?_) | (with_reducible refine Ext.drewN ?_ _) | (with_reducible refine Ext.setCell ?_ ?_ _) | (with_reducible refine Ext.trans ?_ (by assumption)) | go_size))⟩
theorem rLess_n {w1 w2 : World} {a1 : Option Addr} {l1 : List Int} {n1 : Nat} (c1 : Nat) {v1 : Bool} {a2 : Option Addr} {l2 : List Int} {n2 : Nat} (c2 : Nat) {v2 : Bool} (w : World) (h1 : AA w1 a1 l1 n1 v1) (e1 : Ext w1 w) (h2 : AA w2 a2 l2 n2 v2) (e2 : Ext w2 w) (hv : (v1 && v2) = false) :
    Calls Tryd.prog 42 #[.agg #[.slice a1 n1 c1], .agg #[.slice a2 n2 c2]] w (RetErr w 50) := by
  have H1 := Lib.hid (h1.ext e1); have H2 := Lib.hid (h2.ext e2)
  clear h1 h2 e1 e2
  go_enter Tryd.func42, Tryd.ntmps42
  go_wp2_with (go_at_call 61; refine (joined_n _ _ _ _ _ _ _ H1.out (by (repeat' (first | (with_reducible assumption) | (with_reducible exact Ext.refl _) | (with_reducible refine Ext.alloc ?_ _) | (with_reducible refine Ext.drew ?_) | (with_reducible refine Ext.drewN ?_ _) | (with_reducible refine Ext.setCell ?_ ?_ _) | (with_reducible refine Ext.trans ?_ (by assumption)) | go_size))) H2.out (by (repeat' (first | (with_reducible assumption) | (with_reducible exact Ext.refl _) | (with_reducible refine Ext.alloc ?_ _) | (with_reducible refine Ext.drew ?_) | (with_reducible refine Ext.drewN ?_ _) | (with_reducible refine Ext.setCell ?_ ?_ _) | (with_reducible refine Ext.trans ?_ (by assumption)) | go_size))) hv).mono ?_; rintro e w1 ⟨rfl, hb⟩; have hc := hb.cellE; have hf := hb.frozenE; have hz := hb.size; have ha := alloc_keeps w1; (try simp only [World.size_alloc] at hc hf hz); (try simp only [World.size_setCell] at hc hf hz); (try simp only [World.size_drew] at hc hf hz))
  ((try simp only [Exit.inBlock, Exit.then]); refine bodyPost_ret (v := .tuple #[.agg #[.slice none 0 0], .int .i64 50]) (by simp [results, Tryd.results42, go_sem, *]) rfl ?_)
  exact ⟨rfl, by (repeat' (first | (with_reducible assumption) | (with_reducible exact Ext.refl _) | (with_reducible refine Ext.alloc ?_ _) | (with_reducible refine Ext.drew ?_) | (with_reducible refine Ext.drewN ?_ _) | (with_reducible refine Ext.setCell ?_ ?_ _) | (with_reducible refine Ext.trans ?_ (by assumption)) | go_size))⟩
theorem rLess_c {w1 w2 : World} {a1 : Option Addr} {l1 : List Int} {n1 : Nat} (c1 : Nat) {v1 : Bool} {a2 : Option Addr} {l2 : List Int} {n2 : Nat} (c2 : Nat) {v2 : Bool} (w : World) (h1 : AA w1 a1 l1 n1 v1) (e1 : Ext w1 w) (h2 : AA w2 a2 l2 n2 v2) (e2 : Ext w2 w) :
    Calls Tryd.prog 42 #[.agg #[.slice a1 n1 c1], .agg #[.slice a2 n2 c2]] w (RetAny w (v1 && v2) (Globe.lessL l1 l2) 50) := by
  replace h1 := h1.ext e1
  replace h2 := h2.ext e2
  cases hq : (v1 && v2)
  · exact (rLess_n c1 c2 w h1 (Ext.refl _) h2 (Ext.refl _) hq).mono fun _ _ h => RetAny.no h
  · obtain ⟨rfl, rfl⟩ := Bool.and_eq_true_iff.1 hq
    obtain ⟨b1, o1, rfl, rfl, r1⟩ := h1.va
    obtain ⟨b2, o2, rfl, rfl, r2⟩ := h2.va
    exact (rLess_v c1 c2 w r1 (Ext.refl _) r2 (Ext.refl _)).mono fun _ _ h => h.any

theorem rContains_c {w1 w2 : World} {a1 : Option Addr} {l1 : List Int} {n1 : Nat} (c1 : Nat) {v1 : Bool} {a2 : Option Addr} {l2 : List Int} {n2 : Nat} (c2 : Nat) {v2 : Bool} (w : World) (h1 : AA w1 a1 l1 n1 v1) (e1 : Ext w1 w) (h2 : AA w2 a2 l2 n2 v2) (e2 : Ext w2 w) :
    Calls Tryd.prog 44 #[.agg #[.slice a1 n1 c1], .agg #[.slice a2 n2 c2]] w fun e w' => e = .returned (.bool (Globe.containsB l1 l2)) ∧ Ext w w' := by
  replace h1 := h1.ext e1
  replace h2 := h2.ext e2
  clear e1 e2
  have hcb : Globe.containsB l1 l2 = (v1 && v2 && decide (Globe.lessL l2 l1 = Globe.zeroL)) := by unfold Globe.containsB; rw [h1.2.2.2, h2.2.2.2]
  rw [hcb]
  clear hcb
  cases hq : (v2 && v1)
  · have hq' : (v1 && v2) = false := by rw [Bool.and_comm]; exact hq
    rw [hq']
    have H1 := Lib.hid h1; have H2 := Lib.hid h2; have HQ := Lib.hid hq
    clear h1 h2 hq hq'
    go_enter Tryd.func44, Tryd.ntmps44
    go_wp2_with (go_at_call 42; refine (rLess_n _ _ _ H2.out (by (repeat' (first | (with_reducible assumption) | (with_reducible exact Ext.refl _) | (with_reducible refine Ext.alloc ?_ _) | (with_reducible refine Ext.drew ?_) | (with_reducible refine Ext.drewN ?_ _) | (with_reducible refine Ext.setCell ?_ ?_ _) | (with_reducible refine Ext.trans ?_ (by assumption)) | go_size))) H1.out (by (repeat' (first | (with_reducible assumption) | (with_reducible exact Ext.refl _) | (with_reducible refine Ext.alloc ?_ _) | (with_reducible refine Ext.drew ?_) | (with_reducible refine Ext.drewN ?_ _) | (with_reducible refine Ext.setCell ?_ ?_ _) | (with_reducible refine Ext.trans ?_ (by assumption)) | go_size))) HQ.out).mono ?_; rintro e w1 ⟨rfl, hb⟩; have hc := hb.cellE; have hf := hb.frozenE; have hz := hb.size; have ha := alloc_keeps w1; (try simp only [World.size_alloc] at hc hf hz); (try simp only [World.size_setCell] at hc hf hz); (try simp only [World.size_drew] at hc hf hz))
    go_ret
    exact ⟨rfl, by (repeat' (first | (with_reducible assumption) | (with_reducible exact Ext.refl _) | (with_reducible refine Ext.alloc ?_ _) | (with_reducible refine Ext.drew ?_) | (with_reducible refine Ext.drewN ?_ _) | (with_reducible refine Ext.setCell ?_ ?_ _) | (with_reducible refine Ext.trans ?_ (by assumption)) | go_size))⟩
  · obtain ⟨rfl, rfl⟩ := Bool.and_eq_true_iff.1 hq
    clear hq
    obtain ⟨b1, o1, rfl, rfl, r1⟩ := h1.va
    obtain ⟨b2, o2, rfl, rfl, r2⟩ := h2.va
    have hz := Globe.count_zero_iff (Globe.less_valid (b := l1) r2.2)
    obtain ⟨m, hm⟩ : ∃ m, (Globe.cellsTo (Globe.lessL l2 l1) 24).length = m := ⟨_, rfl⟩
    have hcl : Globe.countL (Globe.lessL l2 l1) = m := by unfold Globe.countL Globe.cellsL; rw [Globe.less_valid r2.2]; exact hm
    rw [hm] at hz
    have HC := Lib.hid hcl; have H1 := Lib.hid r1; have H2 := Lib.hid r2
    clear hm hcl h1 h2 r1 r2
    by_cases h0 : m = 0
    · rw [decide_eq_true (hz.1 h0)]
      subst h0
      clear hz
      go_enter Tryd.func44, Tryd.ntmps44
      go_wp2_with (first | (go_at_call 42; refine (rLess_v _ _ _ H2.out (by (repeat' (first | (with_reducible assumption) | (with_reducible exact Ext.refl _) | (with_reducible refine Ext.alloc ?_ _) | (with_reducible refine Ext.drew ?_) | (with_reducible refine Ext.drewN ?_ _) | (with_reducible refine Ext.setCell ?_ ?_ _) | (with_reducible refine Ext.trans ?_ (by assumption)) | go_size))) H1.out (by (repeat' (first | (with_reducible assumption) | (with_reducible exact Ext.refl _) | (with_reducible refine Ext.alloc ?_ _) | (with_reducible refine Ext.drew ?_) | (with_reducible refine Ext.drewN ?_ _) | (with_reducible refine Ext.setCell ?_ ?_ _) | (with_reducible refine Ext.trans ?_ (by assumption)) | go_size)))).mono ?_; rintro e w1 ⟨B, k, rfl, hB, hr, hv, hb⟩; clear hr hB; have hc := hb.cellE; have hf := hb.frozenE; have hz := hb.size; have ha := alloc_keeps w1; (try simp only [World.size_alloc] at hc hf hz); (try simp only [World.size_setCell] at hc hf hz); (try simp only [World.size_drew] at hc hf hz)) | (go_at_call 25; refine (rCount_c _ _ hv.aa (by first | exact Ext.refl _ | exact Ext.alloc (Ext.refl _) _)).mono ?_; rw [HC.out]; rintro e w2 ⟨rfl, hb2⟩; have hc2 := hb2.cellE; have hf2 := hb2.frozenE; have hz2 := hb2.size; have ha2 := alloc_keeps w2; (try simp only [World.size_alloc] at hc2 hf2 hz2); (try simp only [World.size_setCell] at hc2 hf2 hz2); (try simp only [World.size_drew] at hc2 hf2 hz2)))
      go_ret
      exact ⟨rfl, by (repeat' (first | (with_reducible assumption) | (with_reducible exact Ext.refl _) | (with_reducible refine Ext.alloc ?_ _) | (with_reducible refine Ext.drew ?_) | (with_reducible refine Ext.drewN ?_ _) | (with_reducible refine Ext.setCell ?_ ?_ _) | (with_reducible refine Ext.trans ?_ (by assumption)) | go_size))⟩
    · rw [decide_eq_false (fun e => h0 (hz.2 e))]
      have m1 : ((m : Int) == 0) = false := by simp; omega
      have m2 : (m == 0) = false := by simp; omega
      clear hz
      go_enter Tryd.func44, Tryd.ntmps44
      go_wp2_with (first | (go_at_call 42; refine (rLess_v _ _ _ H2.out (by (repeat' (first | (with_reducible assumption) | (with_reducible exact Ext.refl _) | (with_reducible refine Ext.alloc ?_ _) | (with_reducible refine Ext.drew ?_) | (with_reducible refine Ext.drewN ?_ _) | (with_reducible refine Ext.setCell ?_ ?_ _) | (with_reducible refine Ext.trans ?_ (by assumption)) | go_size))) H1.out (by (repeat' (first | (with_reducible assumption) | (with_reducible exact Ext.refl _) | (with_reducible refine Ext.alloc ?_ _) | (with_reducible refine Ext.drew ?_) | (with_reducible refine Ext.drewN ?_ _) | (with_reducible refine Ext.setCell ?_ ?_ _) | (with_reducible refine Ext.trans ?_ (by assumption)) | go_size)))).mono ?_; rintro e w1 ⟨B, k, rfl, hB, hr, hv, hb⟩; clear hr hB; have hc := hb.cellE; have hf := hb.frozenE; have hz := hb.size; have ha := alloc_keeps w1; (try simp only [World.size_alloc] at hc hf hz); (try simp only [World.size_setCell] at hc hf hz); (try simp only [World.size_drew] at hc hf hz)) | (go_at_call 25; refine (rCount_c _ _ hv.aa (by first | exact Ext.refl _ | exact Ext.alloc (Ext.refl _) _)).mono ?_; rw [HC.out]; rintro e w2 ⟨rfl, hb2⟩; have hc2 := hb2.cellE; have hf2 := hb2.frozenE; have hz2 := hb2.size; have ha2 := alloc_keeps w2; (try simp only [World.size_alloc] at hc2 hf2 hz2); (try simp only [World.size_setCell] at hc2 hf2 hz2); (try simp only [World.size_drew] at hc2 hf2 hz2)))
      go_ret
      exact ⟨rfl, by (repeat' (first | (with_reducible assumption) | (with_reducible exact Ext.refl _) | (with_reducible refine Ext.alloc ?_ _) | (with_reducible refine Ext.drew ?_) | (with_reducible refine Ext.drewN ?_ _) | (with_reducible refine Ext.setCell ?_ ?_ _) | (with_reducible refine Ext.trans ?_ (by assumption)) | go_size))⟩

end Go.Proofs.YtnfknekbbdfdfaaDoor

/- Contracts of the reference of package globe: Near, SameCells, Shifted. -/
namespace Go.Proofs.YtnfknekbbdfdfaaDoor
open Go.RowKit
open Globe (outTo outTo_snoc outTo_nil outTo_spec)

set_option maxHeartbeats 2000000 in
theorem rNear_c (x y x' y' : Int) (w : World) :
    Calls Tryd.prog 18 #[.agg #[.int .i64 x, .int .i64 y], .agg #[.int .i64 x', .int .i64 y']] w fun e w' => e = .returned (.int .i64 (nearI x y x' y')) ∧ Ext w w' := by
  cases h1 : Globe.vcB x y
  · have hr := nearI_no (x := x) (y := y) (x' := x') (y' := y') (by rw [h1]; rfl)
    have Hr := Lib.hid hr; clear hr
    go_enter Tryd.func18, Tryd.ntmps18
    go_wp2_with (go_at_call 16; refine (rValidCell_c _ _ _).mono ?_; rintro e w1 ⟨rfl, hb⟩; have hc := hb.cellE; have hf := hb.frozenE; have hz := hb.size; have ha := alloc_keeps w1; (try simp only [World.size_alloc] at hc hf hz); (try simp only [World.size_setCell] at hc hf hz); (try simp only [World.size_drew] at hc hf hz))
    go_ret
    exact ⟨ret_int Hr.out.symm, by (repeat' (first | (with_reducible assumption) | (with_reducible exact Ext.refl _) | (with_reducible refine Ext.alloc ?_ _) | (with_reducible refine Ext.drew ?_) | (with_reducible refine Ext.drewN ?_ _) | (with_reducible refine Ext.setCell ?_ ?_ _) | (with_reducible refine Ext.trans ?_ (by assumption)) | go_size))⟩
  · cases h2 : Globe.vcB x' y'
    · have hr := nearI_no (x := x) (y := y) (x' := x') (y' := y') (by rw [h1, h2]; rfl)
      have Hr := Lib.hid hr; clear hr
      go_enter Tryd.func18, Tryd.ntmps18
      go_wp2_with (go_at_call 16; refine (rValidCell_c _ _ _).mono ?_; rintro e w1 ⟨rfl, hb⟩; have hc := hb.cellE; have hf := hb.frozenE; have hz := hb.size; have ha := alloc_keeps w1; (try simp only [World.size_alloc] at hc hf hz); (try simp only [World.size_setCell] at hc hf hz); (try simp only [World.size_drew] at hc hf hz))
      go_ret
      exact ⟨ret_int Hr.out.symm, by (repeat' (first | (with_reducible assumption) | (with_reducible exact Ext.refl _) | (with_reducible refine Ext.alloc ?_ _) | (with_reducible refine Ext.drew ?_) | (with_reducible refine Ext.drewN ?_ _) | (with_reducible refine Ext.setCell ?_ ?_ _) | (with_reducible refine Ext.trans ?_ (by assumption)) | go_size))⟩
    · have hr := nearI_yes h1 h2
      have Hr := Lib.hid hr; clear hr
      obtain ⟨a1, a2, a3, a4⟩ := Globe.vcB_t.1 h1
      obtain ⟨b1, b2, b3, b4⟩ := Globe.vcB_t.1 h2
      go_enter Tryd.func18, Tryd.ntmps18
      go_wp2_with (go_at_call 16; refine (rValidCell_c _ _ _).mono ?_; rintro e w1 ⟨rfl, hb⟩; have hc := hb.cellE; have hf := hb.frozenE; have hz := hb.size; have ha := alloc_keeps w1; (try simp only [World.size_alloc] at hc hf hz); (try simp only [World.size_setCell] at hc hf hz); (try simp only [World.size_drew] at hc hf hz))
      all_goals
        go_ret
        refine ⟨ret_int ?_, by (repeat' (first | (with_reducible assumption) | (with_reducible exact Ext.refl _) | (with_reducible refine Ext.alloc ?_ _) | (with_reducible refine Ext.drew ?_) | (with_reducible refine Ext.drewN ?_ _) | (with_reducible refine Ext.setCell ?_ ?_ _) | (with_reducible refine Ext.trans ?_ (by assumption)) | go_size))⟩
        rw [Hr.out]
        clear hc hf hz ha hb
        rcases circI_or x x' with ⟨h, h'⟩ | ⟨h, h'⟩ <;> rw [h] <;> (unfold rowI at *; omega)

set_option maxHeartbeats 1000000 in
/-- Two lists that are equal. -/
theorem SameCells_c {w1 w2 : World} {a1 a2 : Option Addr} {n : Nat} {cs : List (Nat × Nat)} (k1 k2 : Nat) (w : World) (h1 : CellsAt w1 a1 n cs) (e1 : Ext w1 w) (h2 : CellsAt w2 a2 n cs) (e2 : Ext w2 w) (hn : n ≤ 9223372036854775807) :
    Calls Tryd.prog 26 #[.slice a1 n k1, .slice a2 n k2] w fun e w' => e = .returned (.bool true) ∧ Ext w w' := by
  have H1 := Lib.hid (h1.ext e1); have H2 := Lib.hid (h2.ext e2)
  clear h1 h2 e1 e2
  go_enter Tryd.func26, Tryd.ntmps26
  go_wp2_with fail
  go_loopw [5] (fun p wr => ∃ i : Nat, i ≤ n ∧ p = .int .i64 i ∧ Ext w wr) (fun p _ => n - (intOf p).toNat)
  case atStart => exact ⟨0, by omega, rfl, by (repeat' (first | (with_reducible assumption) | (with_reducible exact Ext.refl _) | (with_reducible refine Ext.alloc ?_ _) | (with_reducible refine Ext.drew ?_) | (with_reducible refine Ext.drewN ?_ _) | (with_reducible refine Ext.setCell ?_ ?_ _) | (with_reducible refine Ext.trans ?_ (by assumption)) | go_size))⟩
  case round =>
    obtain ⟨i, hi, rfl, hE⟩ := hrel
    by_cases hlt : i < n
    · obtain ⟨b1, rfl, hc1⟩ := H1.out.2.resolve_left (by omega)
      obtain ⟨b2, rfl, hc2⟩ := H2.out.2.resolve_left (by omega)
      obtain ⟨x, y, hp⟩ : ∃ x y, cs[i]? = some (x, y) := ⟨_, _, List.getElem?_eq_getElem (by rw [H1.out.1]; exact hlt)⟩
      obtain ⟨q0, q1⟩ := hc1 i _ hp
      obtain ⟨r0, r1⟩ := hc2 i _ hp
      replace q0 := hE.cell q0; replace q1 := hE.cell q1; replace r0 := hE.cell r0; replace r1 := hE.cell r1
      dsimp only at q0 q1 r0 r1
      have i0 : (0 : Int) ≤ (i : Int) := by omega
      have i1 : (i : Int) < (n : Int) := by omega
      clear hc1 hc2 hp
      go_wp2_with fail
      refine wp_region_held_drew (S := fun w' => Ext wr w' ∧ w'.cell? ⟨b1, i * 2, none⟩ = some (.int .i64 (x : Int)) ∧ w'.cell? ⟨b1, i * 2 + 1, none⟩ = some (.int .i64 (y : Int)) ∧ w'.cell? ⟨b2, i * 2, none⟩ = some (.int .i64 (x : Int)) ∧ w'.cell? ⟨b2, i * 2 + 1, none⟩ = some (.int .i64 (y : Int))) (by kernel_rfl) ⟨Ext.drew (Ext.refl _), q0, q1, r0, r1⟩ (fun hHeld => ?_)
      (refine rg_take 0 (v := ?_) rfl (by kernel_rfl) (by kernel_rfl) (by kernel_rfl) (fun _ _ _ h => h) (by kernel_rfl) ?_ (by with_reducible assumption) ?_; rotate_left; (focus (intro w hSw; (try dsimp only at hSw); go_simp; (try with_reducible rfl))); (try simp only [Act.put, List.setIfInBounds_toArray, List.set_cons_zero, List.set_cons_succ]))
      (refine rg_take 1 (v := ?_) rfl (by kernel_rfl) (by kernel_rfl) (by kernel_rfl) (fun _ _ _ h => h) (by kernel_rfl) ?_ (by with_reducible assumption) ?_; rotate_left; (focus (intro w hSw; (try dsimp only at hSw); go_simp; (try with_reducible rfl))); (try simp only [Act.put, List.setIfInBounds_toArray, List.set_cons_zero, List.set_cons_succ]))
      (refine rg_take 2 (v := ?_) rfl (by kernel_rfl) (by kernel_rfl) (by kernel_rfl) (fun _ _ _ h => h) (by kernel_rfl) ?_ (by with_reducible assumption) ?_; rotate_left; (focus (intro w hSw; (try dsimp only at hSw); go_simp; (try with_reducible rfl))); (try simp only [Act.put, List.setIfInBounds_toArray, List.set_cons_zero, List.set_cons_succ]))
      (refine rg_take 3 (v := ?_) rfl (by kernel_rfl) (by kernel_rfl) (by kernel_rfl) (fun _ _ _ h => h) (by kernel_rfl) ?_ (by with_reducible assumption) ?_; rotate_left; (focus (intro w hSw; (try dsimp only at hSw); go_simp; (try with_reducible rfl))); (try simp only [Act.put, List.setIfInBounds_toArray, List.set_cons_zero, List.set_cons_succ]))
      (refine rg_take 4 (v := ?_) rfl (by kernel_rfl) (by kernel_rfl) (by kernel_rfl) (fun _ _ _ h => h) (by kernel_rfl) ?_ (by with_reducible assumption) ?_; rotate_left; (focus (intro w hSw; (try dsimp only at hSw); go_simp; (try with_reducible rfl))); (try simp only [Act.put, List.setIfInBounds_toArray, List.set_cons_zero, List.set_cons_succ]))
      (refine rg_take 5 (v := ?_) rfl (by kernel_rfl) (by kernel_rfl) (by kernel_rfl) (fun _ _ _ h => h) (by kernel_rfl) ?_ (by with_reducible assumption) ?_; rotate_left; (focus (intro w hSw; (try dsimp only at hSw); go_simp; (try with_reducible rfl))); (try simp only [Act.put, List.setIfInBounds_toArray, List.set_cons_zero, List.set_cons_succ]))
      (refine rg_take 6 (v := ?_) rfl (by kernel_rfl) (by kernel_rfl) (by kernel_rfl) (fun _ _ _ h => h) (by kernel_rfl) ?_ (by with_reducible assumption) ?_; rotate_left; (focus (intro w hSw; (try dsimp only at hSw); go_simp; (try with_reducible rfl))); (try simp only [Act.put, List.setIfInBounds_toArray, List.set_cons_zero, List.set_cons_succ]))
      (refine rg_take 7 (v := ?_) rfl (by kernel_rfl) (by kernel_rfl) (by kernel_rfl) (fun _ _ _ h => h) (by kernel_rfl) ?_ (by with_reducible assumption) ?_; rotate_left; (focus (intro w hSw; (try dsimp only at hSw); go_simp; (try with_reducible rfl))); (try simp only [Act.put, List.setIfInBounds_toArray, List.set_cons_zero, List.set_cons_succ]))
      (refine rg_take 8 (v := ?_) rfl (by kernel_rfl) (by kernel_rfl) (by kernel_rfl) (fun _ _ _ h => h) (by kernel_rfl) ?_ (by with_reducible assumption) ?_; rotate_left; (focus (intro w hSw; (try dsimp only at hSw); go_simp; (try with_reducible rfl))); (try simp only [Act.put, List.setIfInBounds_toArray, List.set_cons_zero, List.set_cons_succ]))
      refine wpAnyH_done (by kernel_rfl) ?_ _
      go_wp2_with fail
      go_roundw
      case rel => exact ⟨i + 1, by omega, by go_num, hE.trans hHeld.1⟩
      case measure => simp [intOf]; omega
    · obtain rfl : i = n := by omega
      go_wp2_with fail
      go_ret
      exact ⟨rfl, by (repeat' (first | (with_reducible assumption) | (with_reducible exact Ext.refl _) | (with_reducible refine Ext.alloc ?_ _) | (with_reducible refine Ext.drew ?_) | (with_reducible refine Ext.drewN ?_ _) | (with_reducible refine Ext.setCell ?_ ?_ _) | (with_reducible refine Ext.trans ?_ (by assumption)) | go_size))⟩

/-- The first i cells, shifted. -/
def shPts (cs : List (Nat × Nat)) (m i : Nat) : List (Nat × Nat) := (cs.take i).map fun p => ((p.1 + m) % 48, p.2)
theorem shPts_zero (cs : List (Nat × Nat)) (m : Nat) : shPts cs m 0 = [] := by simp [shPts]
theorem shPts_succ {cs : List (Nat × Nat)} {m i : Nat} {p : Nat × Nat} (h : cs[i]? = some p) : shPts cs m (i + 1) = shPts cs m i ++ [((p.1 + m) % 48, p.2)] := by
  obtain ⟨h1, rfl⟩ := List.getElem?_eq_some_iff.1 h
  unfold shPts
  rw [List.take_succ_eq_append_getElem h1, List.map_append]; rfl
theorem shPts_in {l : List Int} {m i : Nat} : ∀ p ∈ shPts (Globe.cellsTo l 24) m i, p.1 < 48 ∧ p.2 < 24 := by
  intro p hp
  simp only [shPts, List.mem_map] at hp
  obtain ⟨q, hq, rfl⟩ := hp
  exact ⟨Nat.mod_lt _ (by decide), (Globe.take_in i q hq).2⟩
theorem out_shift {l : List Int} (hl : Globe.validL l = true) {m n : Nat} (hm : m < 48) (hn : (Globe.cellsTo l 24).length = n) : outTo (shPts (Globe.cellsTo l 24) m n) = Globe.shiftL l m := by
  have hs := outTo_spec _ _ rfl (shPts_in (l := l) (m := m) (i := n))
  refine Globe.ext_has hs.1 (Globe.shift_valid _ _) fun x y hx hy => ?_
  rw [hs.2, Globe.has_shift hl hm hx hy, Bool.eq_iff_iff, decide_eq_true_eq]
  unfold shPts
  rw [List.take_of_length_le (by omega), List.mem_map]
  constructor
  · rintro ⟨q, hq, e⟩
    obtain ⟨h1, h2, h3⟩ := Globe.mem_cells.1 hq
    have e1 := congrArg Prod.fst e
    have e2 := congrArg Prod.snd e
    dsimp only at e1 e2
    rw [show (x + 48 - m) % 48 = q.1 by omega, ← e2]
    exact h3
  · intro h
    refine ⟨((x + 48 - m) % 48, y), Globe.mem_cells.2 ⟨hy, Nat.mod_lt _ (by decide), h⟩, ?_⟩
    dsimp only
    congr 1
    omega
theorem modN_sh (x : Nat) (k : Int) : modN ((x : Int) + k.tmod 48) = (x + modN k) % 48 := by
  obtain ⟨h1, h2, h3⟩ := modN_go k
  have := modN_lt k
  unfold modN at *
  omega

set_option maxHeartbeats 2000000 in
theorem rShifted_v {w0 : World} {b o : Nat} (c : Nat) {l : List Int} (k : Int) (w : World) (h : VA w0 b o l) (hE : Ext w0 w) :
    Calls Tryd.prog 34 #[.agg #[.slice (some ⟨b, o, none⟩) 24 c], .int .i64 k] w (RetV w (Globe.shiftL l (modN k))) := by
  have H := Lib.hid (h.ext hE); clear h hE
  have hv := H.out.2
  obtain ⟨n, hn⟩ : ∃ n, (Globe.cellsTo l 24).length = n := ⟨_, rfl⟩
  have bn : n ≤ 1152 := by rw [← hn]; exact Globe.cellsTo_len l 24
  rw [← out_shift hv (modN_lt k) hn]
  have HN := Lib.hid hn; have Hv := Lib.hid hv; clear hn hv
  go_enter Tryd.func34, Tryd.ntmps34
  go_wp2_with (first | (go_at_call 23; refine (rValid_c _ _ H.out.aa (by (repeat' (first | (with_reducible assumption) | (with_reducible exact Ext.refl _) | (with_reducible refine Ext.alloc ?_ _) | (with_reducible refine Ext.drew ?_) | (with_reducible refine Ext.drewN ?_ _) | (with_reducible refine Ext.setCell ?_ ?_ _) | (with_reducible refine Ext.trans ?_ (by assumption)) | go_size)))).mono ?_; rintro e w4 ⟨rfl, hb4⟩; have hc4 := hb4.cellE; have hf4 := hb4.frozenE; have hz4 := hb4.size; have ha4 := alloc_keeps w4; (try simp only [World.size_alloc] at hc4 hf4 hz4); (try simp only [World.size_setCell] at hc4 hf4 hz4); (try simp only [World.size_drew] at hc4 hf4 hz4)) | (go_at_call 47; refine (rEmpty_c _).mono ?_; rintro e w3 ⟨B, rfl, hB, hr, hb3⟩; have hc3 := hb3.cellE; have hf3 := hb3.frozenE; have hz3 := hb3.size; have ha3 := alloc_keeps w3; (try simp only [World.size_alloc] at hc3 hf3 hz3); (try simp only [World.size_setCell] at hc3 hf3 hz3); (try simp only [World.size_drew] at hc3 hf3 hz3)) | (go_at_call 28; refine (rCells_v _ _ H.out (by (repeat' (first | (with_reducible assumption) | (with_reducible exact Ext.refl _) | (with_reducible refine Ext.alloc ?_ _) | (with_reducible refine Ext.drew ?_) | (with_reducible refine Ext.drewN ?_ _) | (with_reducible refine Ext.setCell ?_ ?_ _) | (with_reducible refine Ext.trans ?_ (by assumption)) | go_size)))).mono ?_; rintro e w5 ⟨a, kc, rfl, hcs, hfr, hb5⟩; rw [HN.out] at hcs ⊢; have hc5 := hb5.cellE; have hf5 := hb5.frozenE; have hz5 := hb5.size; have ha5 := alloc_keeps w5; (try simp only [World.size_alloc] at hc5 hf5 hz5); (try simp only [World.size_setCell] at hc5 hf5 hz5); (try simp only [World.size_drew] at hc5 hf5 hz5)))
  obtain ⟨O, hO⟩ : ∃ O, O = w3.heap.size := ⟨_, rfl⟩
  rw [← hO]
  have hwB : w.heap.size + 1 < B := by omega
  have hBO : B < O := by have := hr.lt; omega
  have hfr' : ∀ ad, a = some ad → B < ad.block := fun ad e => by have := hfr ad e; simp at this; omega
  have Hfr := Lib.hid hfr'; clear hfr hfr'
  refine wp_name (fun V => Ext w V ∧ BoxAt V (w.heap.size + 1) 0 (.slice none 0 0) ∧ V.cell? ⟨O, 0, none⟩ = some (.slice (some ⟨B, 0, none⟩) 24 24) ∧ RowsAt V B (outTo (shPts (Globe.cellsTo l 24) (modN k) 0)) ∧ CellsAt V a n (Globe.cellsTo l 24)) ⟨by (repeat' (first | (with_reducible assumption) | (with_reducible exact Ext.refl _) | (with_reducible refine Ext.alloc ?_ _) | (with_reducible refine Ext.drew ?_) | (with_reducible refine Ext.drewN ?_ _) | (with_reducible refine Ext.setCell ?_ ?_ _) | (with_reducible refine Ext.trans ?_ (by assumption)) | go_size)), ?_, ?_, ?_, hcs.ext (by first | exact Ext.refl _ | exact Ext.alloc (Ext.refl _) _ | exact Ext.alloc (Ext.alloc (Ext.refl _) _) _)⟩ ?_
  · (repeat' (first | (with_reducible assumption) | (exact ⟨by simp [go_sem], by simp [go_sem]⟩) | (with_reducible refine BoxAt.ext (Ext.alloc (Ext.refl _) _) ?_) | (with_reducible refine BoxAt.ext (by with_reducible assumption) ?_)))
  · exact hb5.cell (by rw [hO]; simp [go_sem])
  · exact hr.ext (by (repeat' (first | (with_reducible assumption) | (with_reducible exact Ext.refl _) | (with_reducible refine Ext.alloc ?_ _) | (with_reducible refine Ext.drew ?_) | (with_reducible refine Ext.drewN ?_ _) | (with_reducible refine Ext.setCell ?_ ?_ _) | (with_reducible refine Ext.trans ?_ (by assumption)) | go_size)))
  clear hO hB hr hb5 hc5 hf5 hz5 ha5 hcs hb3 hc3 hf3 hz3 ha3 hb4 hc4 hf4 hz4 ha4
  rintro V ⟨hE, b6, cO, hr, hcs⟩
  have HC := Lib.hid hcs; clear hcs
  obtain ⟨t0, t1⟩ := tmod_bd k
  go_loopw [8] (fun p wr => ∃ i : Nat, i ≤ n ∧ p = .int .i64 i ∧ RowsAt wr B (outTo (shPts (Globe.cellsTo l 24) (modN k) i)) ∧ V.grownBy wr (some B)) (fun p _ => n - (intOf p).toNat)
  case atStart => exact ⟨0, by omega, rfl, hr, grown_refl _ _⟩
  case round =>
    clear hr
    obtain ⟨i, hi, rfl, hr, hg⟩ := hrel
    have Hr := Lib.hid hr; clear hr
    by_cases hlt : i < n
    · obtain ⟨bl, rfl, hcc⟩ := HC.out.2.resolve_left (by omega)
      have hbl : B < bl := Hfr.out _ rfl
      obtain ⟨x, y, hp⟩ : ∃ x y, (Globe.cellsTo l 24)[i]? = some (x, y) := ⟨_, _, List.getElem?_eq_getElem (by rw [HN.out]; exact hlt)⟩
      obtain ⟨hx, hy⟩ := Globe.cells_in (List.mem_of_getElem? hp)
      obtain ⟨q0, q1⟩ := hcc i _ hp
      have d0 := grown_cell hg q0 (by show bl ≠ B; omega)
      have d1 := grown_cell hg q1 (by show bl ≠ B; omega)
      have dO := grown_cell hg cO (by show O ≠ B; omega)
      dsimp only at d0 d1 hx hy
      have hsn := shPts_succ (m := modN k) hp
      dsimp only at hsn
      have HS := Lib.hid hsn
      have hin := shPts_in (l := l) (m := modN k) (i := i)
      have Hin := Lib.hid hin
      have i0 : (0 : Int) ≤ (i : Int) := by omega
      have i1 : (i : Int) < (n : Int) := by omega
      have k8 : IntKind.i64.wrap ((x : Int) + k.tmod 48) = (x : Int) + k.tmod 48 := by rw [IntKind.wrap_i64]; omega
      have K8 := Lib.hid k8
      clear hcc hp q0 q1 hsn hin k8
      go_wp2_with fail
      refine wp_region_held_drew (S := fun w' => w'.cell? ⟨O, 0, none⟩ = some (.slice (some ⟨B, 0, none⟩) 24 24) ∧ w'.cell? ⟨bl, i * 2, none⟩ = some (.int .i64 (x : Int)) ∧ w'.cell? ⟨bl, i * 2 + 1, none⟩ = some (.int .i64 (y : Int))) (by kernel_rfl) ⟨dO, d0, d1⟩ (fun hHeld => ?_)
      (refine rg_take 0 (v := ?_) rfl (by kernel_rfl) (by kernel_rfl) (by kernel_rfl) (fun _ _ _ h => h) (by kernel_rfl) ?_ (by with_reducible assumption) ?_; rotate_left; (focus (intro w hSw; (try dsimp only at hSw); go_simp; (try with_reducible rfl))); (try simp only [Act.put, List.setIfInBounds_toArray, List.set_cons_zero, List.set_cons_succ]))
      (refine rg_take 1 (v := ?_) rfl (by kernel_rfl) (by kernel_rfl) (by kernel_rfl) (fun _ _ _ h => h) (by kernel_rfl) ?_ (by with_reducible assumption) ?_; rotate_left; (focus (intro w hSw; (try dsimp only at hSw); go_simp; (try with_reducible rfl))); (try simp only [Act.put, List.setIfInBounds_toArray, List.set_cons_zero, List.set_cons_succ]))
      (refine rg_take 2 (v := ?_) rfl (by kernel_rfl) (by kernel_rfl) (by kernel_rfl) (fun _ _ _ h => h) (by kernel_rfl) ?_ (by with_reducible assumption) ?_; rotate_left; (focus (intro w hSw; (try dsimp only at hSw); go_simp; (try with_reducible rfl))); (try simp only [Act.put, List.setIfInBounds_toArray, List.set_cons_zero, List.set_cons_succ]))
      (refine rg_take 3 (v := ?_) rfl (by kernel_rfl) (by kernel_rfl) (by kernel_rfl) (fun _ _ _ h => h) (by kernel_rfl) ?_ (by with_reducible assumption) ?_; rotate_left; (focus (intro w hSw; (try dsimp only at hSw); go_simp; (try with_reducible rfl))); (try simp only [Act.put, List.setIfInBounds_toArray, List.set_cons_zero, List.set_cons_succ]))
      (refine rg_take 4 (v := ?_) rfl (by kernel_rfl) (by kernel_rfl) (by kernel_rfl) (fun _ _ _ h => h) (by kernel_rfl) ?_ (by with_reducible assumption) ?_; rotate_left; (focus (intro w hSw; (try dsimp only at hSw); go_simp; (try with_reducible rfl))); (try simp only [Act.put, List.setIfInBounds_toArray, List.set_cons_zero, List.set_cons_succ]))
      (refine rg_take 5 (v := ?_) rfl (by kernel_rfl) (by kernel_rfl) (by kernel_rfl) (fun _ _ _ h => h) (by kernel_rfl) ?_ (by with_reducible assumption) ?_; rotate_left; (focus (intro w hSw; (try dsimp only at hSw); go_simp; (try with_reducible rfl))); (try simp only [Act.put, List.setIfInBounds_toArray, List.set_cons_zero, List.set_cons_succ]))
      (refine rg_take 6 (v := ?_) rfl (by kernel_rfl) (by kernel_rfl) (by kernel_rfl) (fun _ _ _ h => h) (by kernel_rfl) ?_ (by with_reducible assumption) ?_; rotate_left; (focus (intro w hSw; (try dsimp only at hSw); go_simp; (try with_reducible rfl))); (try simp only [Act.put, List.setIfInBounds_toArray, List.set_cons_zero, List.set_cons_succ]))
      (refine rg_take 7 (v := ?_) rfl (by kernel_rfl) (by kernel_rfl) (by kernel_rfl) (fun _ _ _ h => h) (by kernel_rfl) ?_ (by with_reducible assumption) ?_; rotate_left; (focus (intro w hSw; (try dsimp only at hSw); go_simp; (try with_reducible rfl))); (try simp only [Act.put, List.setIfInBounds_toArray, List.set_cons_zero, List.set_cons_succ]))
      (refine rg_take 8 (v := ?_) rfl (by kernel_rfl) (by kernel_rfl) (by kernel_rfl) (fun _ _ _ h => h) (by kernel_rfl) ?_ (by with_reducible assumption) ?_; rotate_left; (focus (intro w hSw; (try dsimp only at hSw); have k0 := K8.out; go_simp; (try with_reducible rfl))); (try simp only [Act.put, List.setIfInBounds_toArray, List.set_cons_zero, List.set_cons_succ]))
      (refine rg_take 9 (v := ?_) rfl (by kernel_rfl) (by kernel_rfl) (by kernel_rfl) (fun _ _ _ h => h) (by kernel_rfl) ?_ (by with_reducible assumption) ?_; rotate_left; (focus (intro w hSw; (try dsimp only at hSw); go_simp; (try with_reducible rfl))); (try simp only [Act.put, List.setIfInBounds_toArray, List.set_cons_zero, List.set_cons_succ]))
      (refine rg_take 10 (v := ?_) rfl (by kernel_rfl) (by kernel_rfl) (by kernel_rfl) (fun _ _ _ h => h) (by kernel_rfl) ?_ (by with_reducible assumption) ?_; rotate_left; (focus (intro w hSw; (try dsimp only at hSw); go_simp; (try with_reducible rfl))); (try simp only [Act.put, List.setIfInBounds_toArray, List.set_cons_zero, List.set_cons_succ]))
      (refine rg_take 11 (v := ?_) rfl (by kernel_rfl) (by kernel_rfl) (by kernel_rfl) (fun _ _ _ h => h) (by kernel_rfl) ?_ (by with_reducible assumption) ?_; rotate_left; (focus (intro w hSw; (try dsimp only at hSw); go_simp; (try with_reducible rfl))); (try simp only [Act.put, List.setIfInBounds_toArray, List.set_cons_zero, List.set_cons_succ]))
      (refine rg_take 12 (v := ?_) rfl (by kernel_rfl) (by kernel_rfl) (by kernel_rfl) (fun _ _ _ h => h) (by kernel_rfl) ?_ (by with_reducible assumption) ?_; rotate_left; (focus (intro w hSw; (try dsimp only at hSw); go_simp; (try with_reducible rfl))); (try simp only [Act.put, List.setIfInBounds_toArray, List.set_cons_zero, List.set_cons_succ]))
      (refine rg_take 13 (v := ?_) rfl (by kernel_rfl) (by kernel_rfl) (by kernel_rfl) (fun _ _ _ h => h) (by kernel_rfl) ?_ (by with_reducible assumption) ?_; rotate_left; (focus (intro w hSw; (try dsimp only at hSw); go_simp; (try with_reducible rfl))); (try simp only [Act.put, List.setIfInBounds_toArray, List.set_cons_zero, List.set_cons_succ]))
      refine rg_step 14 rfl (by kernel_rfl) (by kernel_rfl) (fun K hK => ?_)
      (go_simp; (go_at_call 49; refine (put_r 24 _ _ _ (Hr.out.drew) Hin.out (Y := y) rfl hy).mono ?_; rintro e w6 ⟨⟨v, rfl⟩, hr2, hg2⟩; rw [modN_sh, ← HS.out] at hr2; have Hr2 := Lib.hid hr2; clear hr2); refine hK.out _ _ (⟨grown_cell hg2 hHeld.1 (by show O ≠ B; omega), grown_cell hg2 hHeld.2.1 (by show bl ≠ B; omega), grown_cell hg2 hHeld.2.2 (by show bl ≠ B; omega)⟩) (fun hHeld => ?_); clear hK K; (try simp only [Act.put, List.setIfInBounds_toArray, List.set_cons_zero, List.set_cons_succ]))
      refine wpAnyH_done (by kernel_rfl) ?_ _
      go_wp2_with fail
      go_roundw
      case rel => exact ⟨i + 1, by omega, by go_num, Hr2.out, grown_trans (grown_ext hg (Ext.drew (Ext.refl _))) hg2⟩
      case measure => simp [intOf]; omega
    · obtain rfl : i = n := by omega
      have dO := grown_cell hg cO (by show O ≠ B; omega)
      obtain ⟨d6, f6⟩ := BoxAt.grown hg b6 (by show w.heap.size + 1 ≠ B; omega)
      have hE2 := Ext.grown hE hg (by omega)
      have hr3 := Hr.out.other (p := ⟨w.heap.size + 1, 0, none⟩) (by show w.heap.size + 1 ≠ B; omega) (.slice (some ⟨B, 0, none⟩) 24 24)
      have hv3 := (outTo_spec _ _ rfl (shPts_in (l := l) (m := modN k) (i := i))).1
      have H3 := Lib.hid hr3; have Hv3 := Lib.hid hv3; clear hr3 hv3 hg
      go_wp2_with fail
      exact bodyPost_ret (v := .tuple #[.agg #[.slice (some ⟨B, 0, none⟩) 24 24], .int .i64 0]) (by simp [results, Tryd.results34, go_sem, d6]) rfl ⟨B, 24, rfl, by omega, H3.out, H3.out.va Hv3.out, by (repeat' (first | (with_reducible assumption) | (with_reducible exact Ext.refl _) | (with_reducible refine Ext.alloc ?_ _) | (with_reducible refine Ext.drew ?_) | (with_reducible refine Ext.drewN ?_ _) | (with_reducible refine Ext.setCell ?_ ?_ _) | (with_reducible refine Ext.trans ?_ (by assumption)) | go_size))⟩
theorem rShifted_c {w1 : World} {a1 : Option Addr} {l1 : List Int} {n1 : Nat} (c1 : Nat) {v1 : Bool} (k : Int) (w : World) (h1 : AA w1 a1 l1 n1 v1) (e1 : Ext w1 w) :
    Calls Tryd.prog 34 #[.agg #[.slice a1 n1 c1], .int .i64 k] w (RetAny w v1 (Globe.shiftL l1 (modN k)) 50) := by
  replace h1 := h1.ext e1
  cases v1
  · have H1 := Lib.hid h1; clear h1
    have : Calls Tryd.prog 34 #[.agg #[.slice a1 n1 c1], .int .i64 k] w (RetErr w 50) := by
      go_enter Tryd.func34, Tryd.ntmps34
      go_wp2_with (go_at_call 23; refine (rValid_c _ _ H1.out (by (repeat' (first | (with_reducible assumption) | (with_reducible exact Ext.refl _) | (with_reducible refine Ext.alloc ?_ _) | (with_reducible refine Ext.drew ?_) | (with_reducible refine Ext.drewN ?_ _) | (with_reducible refine Ext.setCell ?_ ?_ _) | (with_reducible refine Ext.trans ?_ (by assumption)) | go_size)))).mono ?_; rintro e w1 ⟨rfl, hb⟩; have hc := hb.cellE; have hf := hb.frozenE; have hz := hb.size; have ha := alloc_keeps w1; (try simp only [World.size_alloc] at hc hf hz); (try simp only [World.size_setCell] at hc hf hz); (try simp only [World.size_drew] at hc hf hz))
      ((try simp only [Exit.inBlock, Exit.then]); refine bodyPost_ret (v := .tuple #[.agg #[.slice none 0 0], .int .i64 50]) (by simp [results, Tryd.results34, go_sem, *]) rfl ?_)
      exact ⟨rfl, by (repeat' (first | (with_reducible assumption) | (with_reducible exact Ext.refl _) | (with_reducible refine Ext.alloc ?_ _) | (with_reducible refine Ext.drew ?_) | (with_reducible refine Ext.drewN ?_ _) | (with_reducible refine Ext.setCell ?_ ?_ _) | (with_reducible refine Ext.trans ?_ (by assumption)) | go_size))⟩
    exact this.mono fun _ _ h => RetAny.no h
  · obtain ⟨b1, o1, rfl, rfl, r1⟩ := h1.va
    exact (rShifted_v c1 k w r1 (Ext.refl _)).mono fun _ _ h => h.any

end Go.Proofs.YtnfknekbbdfdfaaDoor

/- Growing, as the reference does it: first along the rows, then across them. Plain mathematics. -/
namespace Go.Proofs.YtnfknekbbdfdfaaDoor
namespace Globe

def md (k : Int) : Nat := (k % 48).toNat
def rowGr (p : Nat × Nat) (n j : Nat) : List (Nat × Nat) := (List.range j).map fun (t : Nat) => (md ((p.1 : Int) - (n : Int) + (t : Int)), p.2)
def grPts (cs : List (Nat × Nat)) (n i : Nat) : List (Nat × Nat) := (cs.take i).flatMap fun p => rowGr p n (2 * n + 1)
theorem rowGr_zero (p : Nat × Nat) (n : Nat) : rowGr p n 0 = [] := by simp [rowGr]
theorem rowGr_succ (p : Nat × Nat) (n j : Nat) : rowGr p n (j + 1) = rowGr p n j ++ [(md ((p.1 : Int) - (n : Int) + (j : Int)), p.2)] := by simp [rowGr, List.range_succ]
theorem grPts_zero (cs : List (Nat × Nat)) (n : Nat) : grPts cs n 0 = [] := by simp [grPts]
theorem grPts_succ {cs : List (Nat × Nat)} {n i : Nat} {p : Nat × Nat} (h : cs[i]? = some p) : grPts cs n (i + 1) = grPts cs n i ++ rowGr p n (2 * n + 1) := by
  obtain ⟨h1, rfl⟩ := List.getElem?_eq_some_iff.1 h
  unfold grPts
  rw [List.take_succ_eq_append_getElem h1, List.flatMap_append]
  simp
theorem md_lt (k : Int) : md k < 48 := by unfold md; omega
theorem rowGr_in {p : Nat × Nat} {n j : Nat} (hp : p.2 < 24) : ∀ q ∈ rowGr p n j, q.1 < 48 ∧ q.2 < 24 := by
  intro q hq
  simp only [rowGr, List.mem_map] at hq
  obtain ⟨t, _, rfl⟩ := hq
  exact ⟨md_lt _, hp⟩
theorem grPts_in {l : List Int} {n i : Nat} : ∀ q ∈ grPts (cellsTo l 24) n i, q.1 < 48 ∧ q.2 < 24 := by
  intro q hq
  simp only [grPts, List.mem_flatMap] at hq
  obtain ⟨p, hp, hq⟩ := hq
  exact rowGr_in (take_in i p hp).2 q hq
theorem md_circ {x x' n : Nat} (hx : x < 48) (hx' : x' < 48) (hn : n ≤ 24) : (∃ t : Nat, t < 2 * n + 1 ∧ md ((x' : Int) - (n : Int) + (t : Int)) = x) ↔ circ x x' ≤ n := by
  constructor
  · rintro ⟨t, ht, rfl⟩
    unfold circ md
    omega
  · intro h
    unfold circ at h
    by_cases h1 : x ≤ x' + n ∧ x' ≤ x + n
    · exact ⟨x + n - x', by omega, by unfold md; omega⟩
    · by_cases h2 : x' ≤ x
      · exact ⟨x + n - x' - 48, by omega, by unfold md; omega⟩
      · exact ⟨x + 48 + n - x', by omega, by unfold md; omega⟩
theorem has_wide {l : List Int} {n N x y : Nat} (hn : n ≤ 24) (hN : (cellsTo l 24).length = N) (hx : x < 48) : hasL (outTo (grPts (cellsTo l 24) n N)) x y = true ↔ ∃ x', x' < 48 ∧ y < 24 ∧ circ x x' ≤ n ∧ hasL l x' y = true := by
  rw [(outTo_spec _ _ rfl (grPts_in (l := l) (n := n) (i := N))).2, decide_eq_true_eq]
  unfold grPts
  rw [List.take_of_length_le (by omega)]
  simp only [List.mem_flatMap, rowGr, List.mem_map, List.mem_range, Prod.mk.injEq]
  constructor
  · rintro ⟨p, hp, t, ht, e1, rfl⟩
    obtain ⟨h1, h2, h3⟩ := mem_cells.1 hp
    exact ⟨p.1, h2, h1, (md_circ hx h2 hn).1 ⟨t, ht, e1⟩, h3⟩
  · rintro ⟨x', hx', hy, hc, h⟩
    obtain ⟨t, ht, e⟩ := (md_circ hx hx' hn).2 hc
    exact ⟨(x', y), mem_cells.2 ⟨hy, hx', h⟩, t, ht, e, rfl⟩
/-- Some rows from z on, together. -/
def orR (W : List Int) (z : Nat) : Nat → Nat
  | 0 => 0
  | k + 1 => orR W z k ||| rowN W (z + k)
theorem orR_lt {W : List Int} (h : validL W = true) (z : Nat) : ∀ k, orR W z k < 281474976710656
  | 0 => by show 0 < _; decide
  | k + 1 => Nat.or_lt_two_pow (n := 48) (orR_lt h z k) (rowN_lt h _)
theorem orR_bit (W : List Int) (z x : Nat) : ∀ k, (orR W z k).testBit x = true ↔ ∃ i, i < k ∧ hasL W x (z + i) = true
  | 0 => by simp [orR]
  | k + 1 => by
    rw [orR, Nat.testBit_or, Bool.or_eq_true, orR_bit W z x k]
    constructor
    · rintro (⟨i, hi, h⟩ | h)
      · exact ⟨i, by omega, h⟩
      · exact ⟨k, by omega, h⟩
    · rintro ⟨i, hi, h⟩
      rcases Nat.lt_or_ge i k with h1 | h1
      · exact .inl ⟨i, h1, h⟩
      · obtain rfl : i = k := by omega
        exact .inr h
def acrL (W : List Int) (n : Nat) : List Int := rowsF fun y => orR W (y - n) (min 23 (y + n) + 1 - (y - n))
theorem acr_valid {W : List Int} (h : validL W = true) (n : Nat) : validL (acrL W n) = true := rowsF_valid fun _ _ => orR_lt h _ _
theorem acr_grow {l : List Int} (hl : validL l = true) {n N : Nat} (hn : n ≤ 24) (hN : (cellsTo l 24).length = N) : acrL (outTo (grPts (cellsTo l 24) n N)) n = growL l n := by
  have hv := (outTo_spec _ _ rfl (grPts_in (l := l) (n := n) (i := N))).1
  refine ext_iff (acr_valid hv n) (growL_valid hl n) fun x y hx hy => ?_
  rw [has_grow hl hx hy]
  unfold acrL
  rw [has_rowsF _ hy, orR_bit]
  constructor
  · rintro ⟨i, hi, h⟩
    obtain ⟨x', h1, h2, h3, h4⟩ := (has_wide hn hN hx).1 h
    exact ⟨x', y - n + i, h1, h2, by rw [near_le]; omega, h4⟩
  · rintro ⟨x', y', h1, h2, h3, h4⟩
    rw [near_le] at h3
    refine ⟨y' - (y - n), by omega, (has_wide hn hN hx).2 ⟨x', h1, by omega, h3.2.2, ?_⟩⟩
    rw [show y - n + (y' - (y - n)) = y' by omega]; exact h4

end Globe
end Go.Proofs.YtnfknekbbdfdfaaDoor

/- Contract of the reference of package globe: Grown. -/
namespace Go.Proofs.YtnfknekbbdfdfaaDoor
open Go.RowKit
open Globe (outTo outTo_snoc outTo_nil outTo_spec)

theorem exit_nameR (P : World → Prop) {K : Act → World → Prop} {Q : Exit → Act → World → Prop} {e : Exit} {st : Act} {w : World} (h : P w) (hn : ∀ V, P V → Exit.then K Q e st V) : Exit.then K Q e st w := hn w h
theorem set_two {w : World} {B y : Nat} {L : List Int} {u : Int} (h : RowsAt w B (L.set y u)) (hy : y < 24) (v : Int) : RowsAt (w.setCell ⟨B, y, none⟩ (.int .i64 v)) B (L.set y v) := by
  have := h.set hy v
  rwa [set_set'] at this
set_option maxRecDepth 100000 in
set_option maxHeartbeats 4000000 in
theorem rGrown_v {w0 : World} {b o : Nat} (c : Nat) {l : List Int} (n : Nat) (w : World) (h : VA w0 b o l) (hE : Ext w0 w) (hn24 : n ≤ 24) :
    Calls Tryd.prog 36 #[.agg #[.slice (some ⟨b, o, none⟩) 24 c], .int .i64 (n : Int)] w (RetV w (Globe.growL l n)) := by
  have H := Lib.hid (h.ext hE); clear h hE
  have hv := H.out.2
  obtain ⟨N, hN⟩ : ∃ n, (Globe.cellsTo l 24).length = n := ⟨_, rfl⟩
  have bN : N ≤ 1152 := by rw [← hN]; exact Globe.cellsTo_len l 24
  rw [← Globe.acr_grow hv hn24 hN]
  have HN := Lib.hid hN; have Hv := Lib.hid hv; clear hN hv
  have g1 : ¬ (n : Int) < 0 := by omega
  have g2 : ¬ 24 < (n : Int) := by omega
  go_enter Tryd.func36, Tryd.ntmps36
  go_wp2_with (first | (go_at_call 23; refine (rValid_c _ _ H.out.aa (by (repeat' (first | (with_reducible assumption) | (with_reducible exact Ext.refl _) | (with_reducible refine Ext.alloc ?_ _) | (with_reducible refine Ext.drew ?_) | (with_reducible refine Ext.drewN ?_ _) | (with_reducible refine Ext.setCell ?_ ?_ _) | (with_reducible refine Ext.trans ?_ (by assumption)) | go_size)))).mono ?_; rintro e w4 ⟨rfl, hb4⟩; have hc4 := hb4.cellE; have hf4 := hb4.frozenE; have hz4 := hb4.size; have ha4 := alloc_keeps w4; (try simp only [World.size_alloc] at hc4 hf4 hz4); (try simp only [World.size_setCell] at hc4 hf4 hz4); (try simp only [World.size_drew] at hc4 hf4 hz4)) | (go_at_call 47; refine (rEmpty_c _).mono ?_; rintro e w3 ⟨B, rfl, hB, hr, hb3⟩; have hc3 := hb3.cellE; have hf3 := hb3.frozenE; have hz3 := hb3.size; have ha3 := alloc_keeps w3; (try simp only [World.size_alloc] at hc3 hf3 hz3); (try simp only [World.size_setCell] at hc3 hf3 hz3); (try simp only [World.size_drew] at hc3 hf3 hz3)) | (go_at_call 28; refine (rCells_v _ _ H.out (by (repeat' (first | (with_reducible assumption) | (with_reducible exact Ext.refl _) | (with_reducible refine Ext.alloc ?_ _) | (with_reducible refine Ext.drew ?_) | (with_reducible refine Ext.drewN ?_ _) | (with_reducible refine Ext.setCell ?_ ?_ _) | (with_reducible refine Ext.trans ?_ (by assumption)) | go_size)))).mono ?_; rintro e w5 ⟨a, kc, rfl, hcs, hfr, hb5⟩; rw [HN.out] at hcs ⊢; have hc5 := hb5.cellE; have hf5 := hb5.frozenE; have hz5 := hb5.size; have ha5 := alloc_keeps w5; (try simp only [World.size_alloc] at hc5 hf5 hz5); (try simp only [World.size_setCell] at hc5 hf5 hz5); (try simp only [World.size_drew] at hc5 hf5 hz5)))
  obtain ⟨O, hO⟩ : ∃ O, O = w3.heap.size := ⟨_, rfl⟩
  rw [← hO]
  have hwB : w.heap.size + 1 < B := by omega
  have hBO : B < O := by have := hr.lt; omega
  have hfr' : ∀ ad, a = some ad → B < ad.block := fun ad e => by have := hfr ad e; simp at this; omega
  have Hfr := Lib.hid hfr'; clear hfr hfr'
  refine wp_name (fun V => Ext w V ∧ BoxAt V (w.heap.size + 1) 0 (.slice none 0 0) ∧ V.cell? ⟨O, 0, none⟩ = some (.slice (some ⟨B, 0, none⟩) 24 24) ∧ RowsAt V B (outTo (Globe.grPts (Globe.cellsTo l 24) n 0)) ∧ CellsAt V a N (Globe.cellsTo l 24)) ⟨by (repeat' (first | (with_reducible assumption) | (with_reducible exact Ext.refl _) | (with_reducible refine Ext.alloc ?_ _) | (with_reducible refine Ext.drew ?_) | (with_reducible refine Ext.drewN ?_ _) | (with_reducible refine Ext.setCell ?_ ?_ _) | (with_reducible refine Ext.trans ?_ (by assumption)) | go_size)), ?_, ?_, ?_, hcs.ext (by first | exact Ext.refl _ | exact Ext.alloc (Ext.refl _) _ | exact Ext.alloc (Ext.alloc (Ext.refl _) _) _)⟩ ?_
  · (repeat' (first | (with_reducible assumption) | (exact ⟨by simp [go_sem], by simp [go_sem]⟩) | (with_reducible refine BoxAt.ext (Ext.alloc (Ext.refl _) _) ?_) | (with_reducible refine BoxAt.ext (by with_reducible assumption) ?_)))
  · exact hb5.cell (by rw [hO]; simp [go_sem])
  · exact hr.ext (by (repeat' (first | (with_reducible assumption) | (with_reducible exact Ext.refl _) | (with_reducible refine Ext.alloc ?_ _) | (with_reducible refine Ext.drew ?_) | (with_reducible refine Ext.drewN ?_ _) | (with_reducible refine Ext.setCell ?_ ?_ _) | (with_reducible refine Ext.trans ?_ (by assumption)) | go_size)))
  clear hO hB hr hb5 hc5 hf5 hz5 ha5 hcs hb3 hc3 hf3 hz3 ha3 hb4 hc4 hf4 hz4 ha4
  rintro V ⟨hE, b6, cO, hr, hcs⟩
  have HC := Lib.hid hcs; clear hcs
  go_loopw [8] (fun p wr => ∃ i : Nat, i ≤ N ∧ p = .int .i64 i ∧ RowsAt wr B (outTo (Globe.grPts (Globe.cellsTo l 24) n i)) ∧ V.grownBy wr (some B)) (fun p _ => N - (intOf p).toNat)
  case atStart => exact ⟨0, by omega, rfl, hr, grown_refl _ _⟩
  case round =>
    clear hr
    obtain ⟨i, hi, rfl, hr, hg⟩ := hrel
    have Hr := Lib.hid hr; clear hr
    by_cases hlt : i < N
    · obtain ⟨bl, rfl, hcc⟩ := HC.out.2.resolve_left (by omega)
      have hbl : B < bl := Hfr.out _ rfl
      obtain ⟨x, y, hp⟩ : ∃ x y, (Globe.cellsTo l 24)[i]? = some (x, y) := ⟨_, _, List.getElem?_eq_getElem (by rw [HN.out]; exact hlt)⟩
      obtain ⟨hx, hy⟩ := Globe.cells_in (List.mem_of_getElem? hp)
      obtain ⟨q0, q1⟩ := hcc i _ hp
      dsimp only at q0 q1 hx hy
      have hsn := Globe.grPts_succ (n := n) hp
      have HS := Lib.hid hsn
      have i0 : (0 : Int) ≤ (i : Int) := by omega
      have i1 : (i : Int) < (N : Int) := by omega
      have d0 := grown_cell hg q0 (by show bl ≠ B; omega)
      clear hcc hp hsn
      go_wp2_with fail
      clear d0
      go_loopw [9] (fun p wr => ∃ j : Nat, j ≤ 2 * n + 1 ∧ p = .int .i64 ((x : Int) - (n : Int) + (j : Int)) ∧ RowsAt wr B (outTo (Globe.grPts (Globe.cellsTo l 24) n i ++ Globe.rowGr (x, y) n j)) ∧ V.grownBy wr (some B)) (fun p _ => ((x : Int) + n + 1 - intOf p).toNat)
      case atStart => exact ⟨0, by omega, by simp, by rw [Globe.rowGr_zero, List.append_nil]; exact Hr.out, hg⟩
      case round =>
        clear hg
        obtain ⟨j, hj, rfl, hr, hg⟩ := hrel
        have Hr := Lib.hid hr; clear hr
        have d0 := grown_cell hg q0 (by show bl ≠ B; omega)
        by_cases hlj : j < 2 * n + 1
        · have d1 := grown_cell hg q1 (by show bl ≠ B; omega)
          have dO := grown_cell hg cO (by show O ≠ B; omega)
          have g3 : (x : Int) - (n : Int) + (j : Int) ≤ (x : Int) + (n : Int) := by omega
          have hin : ∀ p ∈ Globe.grPts (Globe.cellsTo l 24) n i ++ Globe.rowGr (x, y) n j, p.1 < 48 ∧ p.2 < 24 := fun p hp => (List.mem_append.1 hp).elim (Globe.grPts_in p) (Globe.rowGr_in hy p)
          have Hin := Lib.hid hin; clear hin
          go_wp2_with fail
          refine wp_region_held_drew (S := fun w' => w'.cell? ⟨O, 0, none⟩ = some (.slice (some ⟨B, 0, none⟩) 24 24) ∧ w'.cell? ⟨bl, i * 2, none⟩ = some (.int .i64 (x : Int)) ∧ w'.cell? ⟨bl, i * 2 + 1, none⟩ = some (.int .i64 (y : Int))) (by kernel_rfl) ⟨dO, d0, d1⟩ (fun hHeld => ?_)
          (refine rg_take 0 (v := ?_) rfl (by kernel_rfl) (by kernel_rfl) (by kernel_rfl) (fun _ _ _ h => h) (by kernel_rfl) ?_ (by with_reducible assumption) ?_; rotate_left; (focus (intro w hSw; (try dsimp only at hSw); go_simp; (try with_reducible rfl))); (try simp only [Act.put, List.setIfInBounds_toArray, List.set_cons_zero, List.set_cons_succ]))
          (refine rg_take 1 (v := ?_) rfl (by kernel_rfl) (by kernel_rfl) (by kernel_rfl) (fun _ _ _ h => h) (by kernel_rfl) ?_ (by with_reducible assumption) ?_; rotate_left; (focus (intro w hSw; (try dsimp only at hSw); go_simp; (try with_reducible rfl))); (try simp only [Act.put, List.setIfInBounds_toArray, List.set_cons_zero, List.set_cons_succ]))
          (refine rg_take 2 (v := ?_) rfl (by kernel_rfl) (by kernel_rfl) (by kernel_rfl) (fun _ _ _ h => h) (by kernel_rfl) ?_ (by with_reducible assumption) ?_; rotate_left; (focus (intro w hSw; (try dsimp only at hSw); go_simp; (try with_reducible rfl))); (try simp only [Act.put, List.setIfInBounds_toArray, List.set_cons_zero, List.set_cons_succ]))
          (refine rg_take 3 (v := ?_) rfl (by kernel_rfl) (by kernel_rfl) (by kernel_rfl) (fun _ _ _ h => h) (by kernel_rfl) ?_ (by with_reducible assumption) ?_; rotate_left; (focus (intro w hSw; (try dsimp only at hSw); go_simp; (try with_reducible rfl))); (try simp only [Act.put, List.setIfInBounds_toArray, List.set_cons_zero, List.set_cons_succ]))
          (refine rg_take 4 (v := ?_) rfl (by kernel_rfl) (by kernel_rfl) (by kernel_rfl) (fun _ _ _ h => h) (by kernel_rfl) ?_ (by with_reducible assumption) ?_; rotate_left; (focus (intro w hSw; (try dsimp only at hSw); go_simp; (try with_reducible rfl))); (try simp only [Act.put, List.setIfInBounds_toArray, List.set_cons_zero, List.set_cons_succ]))
          (refine rg_take 5 (v := ?_) rfl (by kernel_rfl) (by kernel_rfl) (by kernel_rfl) (fun _ _ _ h => h) (by kernel_rfl) ?_ (by with_reducible assumption) ?_; rotate_left; (focus (intro w hSw; (try dsimp only at hSw); go_simp; (try with_reducible rfl))); (try simp only [Act.put, List.setIfInBounds_toArray, List.set_cons_zero, List.set_cons_succ]))
          (refine rg_take 6 (v := ?_) rfl (by kernel_rfl) (by kernel_rfl) (by kernel_rfl) (fun _ _ _ h => h) (by kernel_rfl) ?_ (by with_reducible assumption) ?_; rotate_left; (focus (intro w hSw; (try dsimp only at hSw); go_simp; (try with_reducible rfl))); (try simp only [Act.put, List.setIfInBounds_toArray, List.set_cons_zero, List.set_cons_succ]))
          refine rg_step 7 rfl (by kernel_rfl) (by kernel_rfl) (fun K hK => ?_)
          (go_simp; (go_at_call 49; refine (put_r 24 _ _ _ (Hr.out.drew) Hin.out (Y := y) rfl hy).mono ?_; rintro e w6 ⟨⟨v, rfl⟩, hr2, hg2⟩; rw [List.append_assoc, show modN ((x : Int) - (n : Int) + (j : Int)) = Globe.md ((x : Int) - (n : Int) + (j : Int)) from rfl, ← Globe.rowGr_succ (x, y)] at hr2; have Hr2 := Lib.hid hr2; clear hr2); refine hK.out _ _ (⟨grown_cell hg2 hHeld.1 (by show O ≠ B; omega), grown_cell hg2 hHeld.2.1 (by show bl ≠ B; omega), grown_cell hg2 hHeld.2.2 (by show bl ≠ B; omega)⟩) (fun hHeld => ?_); clear hK K; (try simp only [Act.put, List.setIfInBounds_toArray, List.set_cons_zero, List.set_cons_succ]))
          refine wpAnyH_done (by kernel_rfl) ?_ _
          go_wp2_with fail
          go_roundw
          case rel => exact ⟨j + 1, by omega, by go_num, Hr2.out, grown_trans (grown_ext hg (Ext.drew (Ext.refl _))) hg2⟩
          case measure => simp [intOf]; omega
        · obtain rfl : j = 2 * n + 1 := by omega
          have g3 : ¬ (x : Int) - (n : Int) + ((2 * n + 1 : Nat) : Int) ≤ (x : Int) + (n : Int) := by omega
          have g4 : ¬ (x : Int) - (n : Int) + (2 * (n : Int) + 1) ≤ (x : Int) + (n : Int) := by omega
          go_wp2_with fail
          go_roundw
          case rel => exact ⟨i + 1, by omega, by go_num, by rw [HS.out]; exact Hr.out, hg⟩
          case measure => simp [intOf]; omega
    · obtain rfl : i = N := by omega
      have dO := grown_cell hg cO (by show O ≠ B; omega)
      replace b6 := BoxAt.grown hg b6 (by show w.heap.size + 1 ≠ B; omega)
      replace hE := Ext.grown hE hg (by omega)
      have hv3 := (outTo_spec _ _ rfl (Globe.grPts_in (l := l) (n := n) (i := i))).1
      obtain ⟨W, hW⟩ : ∃ W, outTo (Globe.grPts (Globe.cellsTo l 24) n i) = W := ⟨_, rfl⟩
      rw [hW] at hv3
      have hrw := Hr.out
      rw [hW] at hrw ⊢
      have HW := Lib.hid hW; clear hW cO Hr hg HC Hfr
      go_wp2_with fail
      refine (rEmpty_c _).mono ?_
      rintro e w1 ⟨B2, rfl, hB2, hr2, hb⟩
      have hc := hb.cellE; have hf := hb.frozenE; have hz := hb.size; have ha := alloc_keeps w1; (try simp only [World.size_alloc] at hc hf hz); (try simp only [World.size_setCell] at hc hf hz); (try simp only [World.size_drew] at hc hf hz)
      have lO : O < wr.heap.size := World.block_lt_of_cell? wr _ dO
      have lB := hrw.lt
      go_wp2_with fail
      obtain ⟨O2, hO2⟩ : ∃ O, O = w1.heap.size := ⟨_, rfl⟩
      rw [← hO2]
      have hBO2 : B2 < O2 := by have := hr2.lt; omega
      have hBB : B < B2 ∧ O < B2 := by omega
      have hG := Globe.acr_valid hv3 n
      have hGl := Globe.len_of_valid hG
      have hmz : mixTo Globe.zeroL (Globe.acrL W n) 0 = Globe.zeroL := mixTo_zero _ _
      refine wp_name (fun V => Ext w V ∧ BoxAt V (w.heap.size + 1) 0 (.slice none 0 0) ∧ V.cell? ⟨O, 0, none⟩ = some (.slice (some ⟨B, 0, none⟩) 24 24) ∧ RowsAt V B W ∧ V.cell? ⟨O2, 0, none⟩ = some (.slice (some ⟨B2, 0, none⟩) 24 24) ∧ RowsAt V B2 (mixTo Globe.zeroL (Globe.acrL W n) 0)) ⟨hE.trans (by first | exact hb | exact Ext.alloc hb _ | exact Ext.alloc (Ext.alloc hb _) _), BoxAt.ext (by first | exact hb | exact Ext.alloc hb _ | exact Ext.alloc (Ext.alloc hb _) _) b6, Ext.cell (by first | exact hb | exact Ext.alloc hb _ | exact Ext.alloc (Ext.alloc hb _) _) dO, hrw.ext (by first | exact hb | exact Ext.alloc hb _ | exact Ext.alloc (Ext.alloc hb _) _), by rw [hO2]; simp [go_sem], by rw [hmz]; exact hr2.ext (by first | exact Ext.refl _ | exact Ext.alloc (Ext.refl _) _ | exact Ext.alloc (Ext.alloc (Ext.refl _) _) _)⟩ ?_
      clear hE b6 dO hrw hr2 hc hf hz ha hb hO2 hmz hB2 lO lB
      rintro V2 ⟨hE, b6, cO, hrw, cO2, hr⟩
      have HM := Lib.hid hGl; have HG := Lib.hid hG; clear hGl hG
      have Hv3 := Lib.hid hv3; clear hv3
      have Hrw := Lib.hid hrw; clear hrw
      have HL0 : Hid (Globe.zeroL.length = 24) := rfl
      go_loopw [11] (fun p wr => ∃ y : Nat, y ≤ 24 ∧ p = .int .i64 y ∧ RowsAt wr B2 (mixTo Globe.zeroL (Globe.acrL W n) y) ∧ V2.grownBy wr (some B2)) (fun p _ => 24 - (intOf p).toNat)
      case atStart => exact ⟨0, by omega, rfl, hr, grown_refl _ _⟩
      case round =>
        clear hr
        obtain ⟨y, hy, rfl, hr, hg⟩ := hrel
        by_cases hly : y < 24
        · have y0 : (0 : Int) ≤ (y : Int) := by omega
          have y1 : (y : Int) < 24 := by omega
          obtain ⟨z0, hz0⟩ : ∃ z0, z0 = y - n := ⟨_, rfl⟩
          obtain ⟨z1, hz1⟩ : ∃ z1, z1 = min 23 (y + n) := ⟨_, rfl⟩
          have hset : (mixTo Globe.zeroL (Globe.acrL W n) y).set y ((Globe.orR W z0 0 : Nat) : Int) = mixTo Globe.zeroL (Globe.acrL W n) y := by
            have e : ((Globe.orR W z0 0 : Nat) : Int) = Globe.nth (mixTo Globe.zeroL (Globe.acrL W n) y) y := by
              rw [nth_mixTo HL0.out HM.out (by omega), if_neg (by omega), Globe.nth_zero]; rfl
            rw [e, set_same (by rw [mixTo_len HL0.out HM.out (by omega)]; exact hly)]
          have hend : (mixTo Globe.zeroL (Globe.acrL W n) y).set y ((Globe.orR W z0 (z1 + 1 - z0) : Nat) : Int) = mixTo Globe.zeroL (Globe.acrL W n) (y + 1) := by
            rw [← mixTo_set HL0.out HM.out hly]
            congr 1
            unfold Globe.acrL
            rw [Globe.nth_rowsF _ hly, hz0, hz1]
          rw [← hset] at hr
          have Hend := Lib.hid hend; clear hend hset
          have hz0' : max 0 ((y : Int) - (n : Int)) = (z0 : Int) := by omega
          have Hz0 := Lib.hid hz0'; clear hz0'
          have hz01 : z0 ≤ z1 + 1 := by omega
          have hz1a : z1 ≤ y + n := by omega
          have hz1b : z1 ≤ 23 := by omega
          have Hz1 : Hid (z1 = y + n ∨ z1 = 23) := by show _ ∨ _; omega
          clear hz0 hz1
          go_upto_region 16 with fail
          go_cut [12] from 65 to 68 (fun s w' => s = .int .i64 (z0 : Int) ∧ w' = wr)
          case first =>
            go_wp2_with fail
            all_goals go_meet
            all_goals exact ⟨by rw [← Hz0.out]; first | rfl | exact congrArg _ (by omega), rfl⟩
          case rest =>
          obtain ⟨rfl, rfl⟩ := hcut
          go_wp2_with fail
          go_loopw [12] (fun p wr => ∃ z : Nat, z0 ≤ z ∧ z ≤ z1 + 1 ∧ p = .int .i64 z ∧ RowsAt wr B2 ((mixTo Globe.zeroL (Globe.acrL W n) y).set y ((Globe.orR W z0 (z - z0) : Nat) : Int)) ∧ V2.grownBy wr (some B2)) (fun p _ => z1 + 1 - (intOf p).toNat)
          case atStart => exact ⟨z0, by omega, by omega, rfl, by rw [Nat.sub_self]; exact hr, hg⟩
          case round =>
            clear hr hg
            obtain ⟨z, hza, hzb, rfl, hr, hg⟩ := hrel
            by_cases hzz : z ≤ z1
            · have q0 : (0 : Int) ≤ (z : Int) := by omega
              have q1 : (z : Int) < 24 := by omega
              have dO2 := grown_cell hg cO2 (by show O2 ≠ B2; omega)
              have dO := grown_cell hg cO (by show O ≠ B2; omega)
              have hR := Globe.rowN_lt Hv3.out z
              have d1 : wr.cell? ⟨B, z, none⟩ = some (.int .i64 (Globe.rowN W z : Nat)) := by rw [← Globe.rowN_cast Hv3.out]; exact grown_cell hg (Hrw.out.cell (by omega)) (by show B ≠ B2; omega)
              obtain ⟨X, hX⟩ : ∃ X, X = Globe.orR W z0 (z - z0) := ⟨_, rfl⟩
              rw [← hX] at hr
              have hXl : X < 281474976710656 := by rw [hX]; exact Globe.orR_lt Hv3.out _ _
              have d2 : wr.cell? ⟨B2, y, none⟩ = some (.int .i64 (X : Int)) := by
                have := hr.cell hly
                rwa [Globe.nth_set _ (by rw [mixTo_len HL0.out HM.out (by omega)]; exact hly), if_pos rfl] at this
              have d3 := hr.free hly
              have Hsv : Hid ((X ||| Globe.rowN W z) = Globe.orR W z0 (z + 1 - z0)) := by
                show _ = _
                rw [hX, show z + 1 - z0 = (z - z0) + 1 by omega, Globe.orR, show z0 + (z - z0) = z by omega]
              clear hX
              have e3 : bits .or .i64 (X : Int) ((Globe.rowN W z : Nat) : Int) = ((X ||| Globe.rowN W z : Nat) : Int) := or_eq _ _ hXl hR
              generalize hwz : Globe.rowN W z = Wz at *
              generalize hXW : X ||| Wz = XW at *
              clear hwz hXW
              have lO2 : O2 < wr.heap.size := World.block_lt_of_cell? wr _ dO2
              have hr' := set_two hr hly (XW : Int)
              have Hr' := Lib.hid hr'; clear hr' hr
              go_upto_region 17 with fail
              go_cut [74] from 69 to 74 (fun s w' => s = .bool true ∧ w' = wr)
              case first =>
                clear e3 d1 d2 d3 dO dO2 hg hE b6 cO cO2 hR hXl hza hzb lO2 hz01
                by_cases hq : (y : Int) + (n : Int) < 23
                · have hz2 : (z : Int) ≤ (y : Int) + (n : Int) := by omega
                  go_wp2_with fail
                  go_meet
                  exact ⟨rfl, rfl⟩
                · have hz2 : (z : Int) ≤ 23 := by omega
                  go_wp2_with fail
                  go_meet
                  exact ⟨rfl, rfl⟩
              case rest =>
              obtain ⟨rfl, rfl⟩ := hcut
              go_wp2_with fail
              refine wp_region_held_drew (S := fun w' => w'.cell? ⟨O2, 0, none⟩ = some (.slice (some ⟨B2, 0, none⟩) 24 24) ∧ w'.cell? ⟨O, 0, none⟩ = some (.slice (some ⟨B, 0, none⟩) 24 24) ∧ w'.cell? ⟨B, z, none⟩ = some (.int .i64 (Wz : Int))) (by kernel_rfl) ⟨dO2, dO, d1⟩ (fun hHeld => ?_)
              (refine rg_take 0 (v := ?_) rfl (by kernel_rfl) (by kernel_rfl) (by kernel_rfl) (fun _ _ _ h => h) (by kernel_rfl) ?_ (by with_reducible assumption) ?_; rotate_left; (focus (intro w hSw; (try dsimp only at hSw); go_simp; (try with_reducible rfl))); (try simp only [Act.put, List.setIfInBounds_toArray, List.set_cons_zero, List.set_cons_succ]))
              (refine rg_take 1 (v := ?_) rfl (by kernel_rfl) (by kernel_rfl) (by kernel_rfl) (fun _ _ _ h => h) (by kernel_rfl) ?_ (by with_reducible assumption) ?_; rotate_left; (focus (intro w hSw; (try dsimp only at hSw); go_simp; (try with_reducible rfl))); (try simp only [Act.put, List.setIfInBounds_toArray, List.set_cons_zero, List.set_cons_succ]))
              (refine rg_take 2 (v := ?_) rfl (by kernel_rfl) (by kernel_rfl) (by kernel_rfl) (fun _ _ _ h => h) (by kernel_rfl) ?_ (by with_reducible assumption) ?_; rotate_left; (focus (intro w hSw; (try dsimp only at hSw); go_simp; (try with_reducible rfl))); (try simp only [Act.put, List.setIfInBounds_toArray, List.set_cons_zero, List.set_cons_succ]))
              (refine rg_take 3 (v := ?_) rfl (by kernel_rfl) (by kernel_rfl) (by kernel_rfl) (fun _ _ _ h => h) (by kernel_rfl) ?_ (by with_reducible assumption) ?_; rotate_left; (focus (intro w hSw; (try dsimp only at hSw); go_simp; (try with_reducible rfl))); (try simp only [Act.put, List.setIfInBounds_toArray, List.set_cons_zero, List.set_cons_succ]))
              (refine rg_take 4 (v := ?_) rfl (by kernel_rfl) (by kernel_rfl) (by kernel_rfl) (fun _ _ _ h => h) (by kernel_rfl) ?_ (by with_reducible assumption) ?_; rotate_left; (focus (intro w hSw; (try dsimp only at hSw); go_simp; (try with_reducible rfl))); (try simp only [Act.put, List.setIfInBounds_toArray, List.set_cons_zero, List.set_cons_succ]))
              (refine rg_take 5 (v := ?_) rfl (by kernel_rfl) (by kernel_rfl) (by kernel_rfl) (fun _ _ _ h => h) (by kernel_rfl) ?_ (by with_reducible assumption) ?_; rotate_left; (focus (intro w hSw; (try dsimp only at hSw); go_simp; (try with_reducible rfl))); (try simp only [Act.put, List.setIfInBounds_toArray, List.set_cons_zero, List.set_cons_succ]))
              (refine rg_take 6 (v := ?_) rfl (by kernel_rfl) (by kernel_rfl) (by kernel_rfl) (fun _ _ _ h => h) (by kernel_rfl) ?_ (by with_reducible assumption) ?_; rotate_left; (focus (intro w hSw; (try dsimp only at hSw); go_simp; (try with_reducible rfl))); (try simp only [Act.put, List.setIfInBounds_toArray, List.set_cons_zero, List.set_cons_succ]))
              (refine rg_take 8 (v := ?_) rfl (by kernel_rfl) (by kernel_rfl) (by kernel_rfl) (fun _ _ _ h => h) (by kernel_rfl) ?_ (by with_reducible assumption) ?_; rotate_left; (focus (intro w hSw; (try dsimp only at hSw); go_simp; (try with_reducible rfl))); (try simp only [Act.put, List.setIfInBounds_toArray, List.set_cons_zero, List.set_cons_succ]))
              (refine rg_take 9 (v := ?_) rfl (by kernel_rfl) (by kernel_rfl) (by kernel_rfl) (fun _ _ _ h => h) (by kernel_rfl) ?_ (by with_reducible assumption) ?_; rotate_left; (focus (intro w hSw; (try dsimp only at hSw); go_simp; (try with_reducible rfl))); (try simp only [Act.put, List.setIfInBounds_toArray, List.set_cons_zero, List.set_cons_succ]))
              (refine rg_take 10 (v := ?_) rfl (by kernel_rfl) (by kernel_rfl) (by kernel_rfl) (fun _ _ _ h => h) (by kernel_rfl) ?_ (by with_reducible assumption) ?_; rotate_left; (focus (intro w hSw; (try dsimp only at hSw); go_simp; (try with_reducible rfl))); (try simp only [Act.put, List.setIfInBounds_toArray, List.set_cons_zero, List.set_cons_succ]))
              (refine rg_take 11 (v := ?_) rfl (by kernel_rfl) (by kernel_rfl) (by kernel_rfl) (fun _ _ _ h => h) (by kernel_rfl) ?_ (by with_reducible assumption) ?_; rotate_left; (focus (intro w hSw; (try dsimp only at hSw); go_simp; (try with_reducible rfl))); (try simp only [Act.put, List.setIfInBounds_toArray, List.set_cons_zero, List.set_cons_succ]))
              (refine rg_take 12 (v := ?_) rfl (by kernel_rfl) (by kernel_rfl) (by kernel_rfl) (fun _ _ _ h => h) (by kernel_rfl) ?_ (by with_reducible assumption) ?_; rotate_left; (focus (intro w hSw; (try dsimp only at hSw); go_simp; (try with_reducible rfl))); (try simp only [Act.put, List.setIfInBounds_toArray, List.set_cons_zero, List.set_cons_succ]))
              refine rg_step 7 rfl (by kernel_rfl) (by kernel_rfl) (fun K hK => ?_)
              (go_simp; skip; refine hK.out _ _ (hHeld) (fun hHeld => ?_); clear hK K; (try simp only [Act.put, List.setIfInBounds_toArray, List.set_cons_zero, List.set_cons_succ]))
              (refine rg_take 13 (v := ?_) rfl (by kernel_rfl) (by kernel_rfl) (by kernel_rfl) (fun _ _ _ h => h) (by kernel_rfl) ?_ (by with_reducible assumption) ?_; rotate_left; (focus (intro w hSw; (try dsimp only at hSw); go_simp; (try with_reducible rfl))); (try simp only [Act.put, List.setIfInBounds_toArray, List.set_cons_zero, List.set_cons_succ]))
              (refine rg_take 14 (v := ?_) rfl (by kernel_rfl) (by kernel_rfl) (by kernel_rfl) (fun _ _ _ h => h) (by kernel_rfl) ?_ (by with_reducible assumption) ?_; rotate_left; (focus (intro w hSw; (try dsimp only at hSw); go_simp; (try with_reducible rfl))); (try simp only [Act.put, List.setIfInBounds_toArray, List.set_cons_zero, List.set_cons_succ]))
              refine rg_step 15 rfl (by kernel_rfl) (by kernel_rfl) (fun K hK => ?_)
              (go_simp; skip; refine hK.out _ _ (⟨by simp [go_sem, dO2], by simp [go_sem, dO], by simp [go_sem, d1]⟩) (fun hHeld => ?_); clear hK K; (try simp only [Act.put, List.setIfInBounds_toArray, List.set_cons_zero, List.set_cons_succ]))
              refine wpAnyH_done (by kernel_rfl) ?_ _
              go_wp2_with fail
              go_roundw
              case rel =>
                refine ⟨z + 1, by omega, by omega, by go_num, ?_, grown_trans hg (grown_set (p := ⟨B2, y, none⟩) rfl (Below.drew (Below.refl _ _)))⟩
                rw [← Hsv.out]
                exact Hr'.out.drew
              case measure => simp [intOf]; omega
            · have hze : z = z1 + 1 := by omega
              have hza' : z1 + 1 ≤ z := by omega
              rw [hze, Hend.out] at hr
              clear hze
              go_upto_region 17 with fail
              go_cut [74] from 69 to 74 (fun s w' => s = .bool false ∧ w' = wr)
              case first =>
                clear hg hE b6 cO cO2 hzb hz01
                by_cases hq : (y : Int) + (n : Int) < 23
                · have hz2 : ¬ (z : Int) ≤ (y : Int) + (n : Int) := by rcases Hz1.out with h | h <;> omega
                  go_wp2_with fail
                  go_meet
                  exact ⟨rfl, rfl⟩
                · have hz2 : ¬ (z : Int) ≤ 23 := by rcases Hz1.out with h | h <;> omega
                  go_wp2_with fail
                  go_meet
                  exact ⟨rfl, rfl⟩
              case rest =>
              obtain ⟨rfl, rfl⟩ := hcut
              go_wp2_with fail
              go_roundw
              case rel => exact ⟨y + 1, by omega, by go_num, hr, hg⟩
              case measure => simp [intOf]; omega
        · obtain rfl : y = 24 := by omega
          rw [mixTo_all HL0.out HM.out] at hr
          have dO := grown_cell hg cO2 (by show O2 ≠ B2; omega)
          obtain ⟨d6, f6⟩ := BoxAt.grown hg b6 (by show w.heap.size + 1 ≠ B2; omega)
          have hE2 := Ext.grown hE hg (by omega)
          have hr3 := hr.other (p := ⟨w.heap.size + 1, 0, none⟩) (by show w.heap.size + 1 ≠ B2; omega) (.slice (some ⟨B2, 0, none⟩) 24 24)
          rw [← HW.out] at hr3
          have HG2 := Lib.hid (HW.out.symm ▸ HG.out : Globe.validL (Globe.acrL (outTo (Globe.grPts (Globe.cellsTo l 24) n i)) n) = true)
          have H3 := Lib.hid hr3; clear hr3 hg hr
          go_wp2_with fail
          exact bodyPost_ret (v := .tuple #[.agg #[.slice (some ⟨B2, 0, none⟩) 24 24], .int .i64 0]) (by simp [results, Tryd.results36, go_sem, d6]) rfl ⟨B2, 24, rfl, by omega, H3.out, H3.out.va HG2.out, by (repeat' (first | (with_reducible assumption) | (with_reducible exact Ext.refl _) | (with_reducible refine Ext.alloc ?_ _) | (with_reducible refine Ext.drew ?_) | (with_reducible refine Ext.drewN ?_ _) | (with_reducible refine Ext.setCell ?_ ?_ _) | (with_reducible refine Ext.trans ?_ (by assumption)) | go_size))⟩

set_option maxHeartbeats 1000000 in
theorem rGrown_n {w0 : World} {a : Option Addr} {l : List Int} {n : Nat} (c : Nat) {v : Bool} (k : Int) (w : World) (h : AA w0 a l n v) (hE : Ext w0 w) (hv : (v && Globe.inB k 0 24) = false) :
    Calls Tryd.prog 36 #[.agg #[.slice a n c], .int .i64 k] w (RetErr w 50) := by
  have H := Lib.hid (h.ext hE); clear h hE
  cases v
  · clear hv
    go_enter Tryd.func36, Tryd.ntmps36
    go_wp2_with (go_at_call 23; refine (rValid_c _ _ H.out (by (repeat' (first | (with_reducible assumption) | (with_reducible exact Ext.refl _) | (with_reducible refine Ext.alloc ?_ _) | (with_reducible refine Ext.drew ?_) | (with_reducible refine Ext.drewN ?_ _) | (with_reducible refine Ext.setCell ?_ ?_ _) | (with_reducible refine Ext.trans ?_ (by assumption)) | go_size)))).mono ?_; rintro e w1 ⟨rfl, hb⟩; have hc := hb.cellE; have hf := hb.frozenE; have hz := hb.size; have ha := alloc_keeps w1; (try simp only [World.size_alloc] at hc hf hz); (try simp only [World.size_setCell] at hc hf hz); (try simp only [World.size_drew] at hc hf hz))
    ((try simp only [Exit.inBlock, Exit.then]); refine bodyPost_ret (v := .tuple #[.agg #[.slice none 0 0], .int .i64 50]) (by simp [results, Tryd.results36, go_sem, *]) rfl ?_)
    exact ⟨rfl, by (repeat' (first | (with_reducible assumption) | (with_reducible exact Ext.refl _) | (with_reducible refine Ext.alloc ?_ _) | (with_reducible refine Ext.drew ?_) | (with_reducible refine Ext.drewN ?_ _) | (with_reducible refine Ext.setCell ?_ ?_ _) | (with_reducible refine Ext.trans ?_ (by assumption)) | go_size))⟩
  · have hk : k < 0 ∨ 24 < k := Globe.inB_f.1 (by simpa using hv)
    clear hv
    by_cases h0 : k < 0
    · clear hk
      go_enter Tryd.func36, Tryd.ntmps36
      go_wp2_with (go_at_call 23; refine (rValid_c _ _ H.out (by (repeat' (first | (with_reducible assumption) | (with_reducible exact Ext.refl _) | (with_reducible refine Ext.alloc ?_ _) | (with_reducible refine Ext.drew ?_) | (with_reducible refine Ext.drewN ?_ _) | (with_reducible refine Ext.setCell ?_ ?_ _) | (with_reducible refine Ext.trans ?_ (by assumption)) | go_size)))).mono ?_; rintro e w1 ⟨rfl, hb⟩; have hc := hb.cellE; have hf := hb.frozenE; have hz := hb.size; have ha := alloc_keeps w1; (try simp only [World.size_alloc] at hc hf hz); (try simp only [World.size_setCell] at hc hf hz); (try simp only [World.size_drew] at hc hf hz))
      ((try simp only [Exit.inBlock, Exit.then]); refine bodyPost_ret (v := .tuple #[.agg #[.slice none 0 0], .int .i64 50]) (by simp [results, Tryd.results36, go_sem, *]) rfl ?_)
      exact ⟨rfl, by (repeat' (first | (with_reducible assumption) | (with_reducible exact Ext.refl _) | (with_reducible refine Ext.alloc ?_ _) | (with_reducible refine Ext.drew ?_) | (with_reducible refine Ext.drewN ?_ _) | (with_reducible refine Ext.setCell ?_ ?_ _) | (with_reducible refine Ext.trans ?_ (by assumption)) | go_size))⟩
    · have h1 : 24 < k := by omega
      clear hk
      go_enter Tryd.func36, Tryd.ntmps36
      go_wp2_with (go_at_call 23; refine (rValid_c _ _ H.out (by (repeat' (first | (with_reducible assumption) | (with_reducible exact Ext.refl _) | (with_reducible refine Ext.alloc ?_ _) | (with_reducible refine Ext.drew ?_) | (with_reducible refine Ext.drewN ?_ _) | (with_reducible refine Ext.setCell ?_ ?_ _) | (with_reducible refine Ext.trans ?_ (by assumption)) | go_size)))).mono ?_; rintro e w1 ⟨rfl, hb⟩; have hc := hb.cellE; have hf := hb.frozenE; have hz := hb.size; have ha := alloc_keeps w1; (try simp only [World.size_alloc] at hc hf hz); (try simp only [World.size_setCell] at hc hf hz); (try simp only [World.size_drew] at hc hf hz))
      ((try simp only [Exit.inBlock, Exit.then]); refine bodyPost_ret (v := .tuple #[.agg #[.slice none 0 0], .int .i64 50]) (by simp [results, Tryd.results36, go_sem, *]) rfl ?_)
      exact ⟨rfl, by (repeat' (first | (with_reducible assumption) | (with_reducible exact Ext.refl _) | (with_reducible refine Ext.alloc ?_ _) | (with_reducible refine Ext.drew ?_) | (with_reducible refine Ext.drewN ?_ _) | (with_reducible refine Ext.setCell ?_ ?_ _) | (with_reducible refine Ext.trans ?_ (by assumption)) | go_size))⟩
theorem rGrown_c {w0 : World} {a : Option Addr} {l : List Int} {n : Nat} (c : Nat) {v : Bool} (k : Int) (w : World) (h : AA w0 a l n v) (hE : Ext w0 w) :
    Calls Tryd.prog 36 #[.agg #[.slice a n c], .int .i64 k] w (RetAny w (v && Globe.inB k 0 24) (Globe.growL l k.toNat) 50) := by
  cases hq : (v && Globe.inB k 0 24)
  · exact (rGrown_n c k w h hE hq).mono fun _ _ h => RetAny.no h
  · obtain ⟨rfl, hk⟩ := Bool.and_eq_true_iff.1 hq
    obtain ⟨b1, o1, rfl, rfl, r1⟩ := h.va
    obtain ⟨h0, h1⟩ := Globe.inB_t.1 hk
    have := rGrown_v c k.toNat w r1 hE (by omega)
    rw [Int.toNat_of_nonneg h0] at this
    exact this.mono fun _ _ h => h.any

end Go.Proofs.YtnfknekbbdfdfaaDoor

/- A region that draws its order, gone through over a list of what its operations have written so far: the frame itself stays behind a name till the region's end. -/
namespace Go.Proofs.YtnfknekbbdfdfaaDoor
open Go.RowKit

/-- What was written last at a slot. -/
def look : List (Nat × Value) → (Nat → Value) → Nat → Value
  | [], f, k => f k
  | (d, v) :: ws, f, k => if k = d then v else look ws f k
theorem look_nil (f : Nat → Value) (k : Nat) : look [] f k = f k := rfl
theorem look_cons (d : Nat) (v : Value) (ws : List (Nat × Value)) (f : Nat → Value) (k : Nat) : look ((d, v) :: ws) f k = if k = d then v else look ws f k := rfl
def base (L : List Value) (t : Nat) : Value := L.toArray.getD t undef
def evalW (L : List Value) (ws : List (Nat × Value)) : Operand → Value
  | .tmp t => look ws (base L) t
  | o => Act.eval ⟨#[], []⟩ o
theorem evalW_tmp (L : List Value) (ws : List (Nat × Value)) (t : Nat) : evalW L ws (.tmp t) = look ws (base L) t := rfl
theorem evalW_const (L : List Value) (ws : List (Nat × Value)) (v : Value) : evalW L ws (.const v) = v := rfl
theorem evalW_func (L : List Value) (ws : List (Nat × Value)) (f : FuncId) : evalW L ws (.func f) = .func (.func f) #[] #[] := rfl
theorem evalW_global (L : List Value) (ws : List (Nat × Value)) (g : Nat) : evalW L ws (.global g) = .pointer (some ⟨g, 0, none⟩) := rfl
def setAll (L : List Value) : List (Nat × Value) → List Value
  | [] => L
  | (d, v) :: ws => (setAll L ws).set d v
theorem setAll_len (L : List Value) : ∀ ws, (setAll L ws).length = L.length
  | [] => rfl
  | (d, v) :: ws => by rw [setAll, List.length_set, setAll_len L ws]
theorem setAll_get (L : List Value) : ∀ ws : List (Nat × Value), (∀ p ∈ ws, p.1 < L.length) → ∀ t, (setAll L ws).toArray.getD t undef = look ws (base L) t
  | [], _, t => rfl
  | (d, v) :: ws, h, t => by
    have ih := setAll_get L ws (fun p hp => h p (List.mem_cons_of_mem _ hp)) t
    have hd : d < (setAll L ws).length := by rw [setAll_len]; exact h (d, v) (by simp)
    rw [look_cons, ← ih, setAll]
    by_cases e : t = d
    · subst e; simp [hd]
    · have e' : d ≠ t := fun c => e c.symm
      simp [e, List.getElem?_set_ne e']
def lset (m : Nat) : List Nat → Array Bool
  | [] => Array.replicate m false
  | i :: r => (lset m r).setIfInBounds i true
theorem lset_size (m : Nat) : ∀ l, (lset m l).size = m
  | [] => by simp [lset]
  | i :: r => by simp [lset, lset_size m r]
theorem lset_get (m : Nat) (b : Bool) : ∀ (l : List Nat) (j : Nat), (lset m l).getD j b = if j < m then l.contains j else b
  | [], j => by by_cases h : j < m <;> simp [lset, h]
  | i :: r, j => by
    have ih := lset_get m b r j
    have hs := lset_size m r
    by_cases h : j < m
    · rw [if_pos h] at ih ⊢
      by_cases e : i = j
      · subst e; simp [lset, hs, h]
      · have e2 : j ≠ i := fun c => e c.symm
        simp only [lset, Array.getD_eq_getD_getElem?, Array.getElem?_setIfInBounds_ne e, List.contains_cons] at ih ⊢
        rw [ih]
        have : (j == i) = false := by simp [e2]
        rw [this, Bool.false_or]
    · rw [if_neg h] at ih ⊢
      have h1 : m ≤ j := by omega
      simp [lset, hs, h1]

/-- A region's rows: where an operation writes, what it looks at, what it waits for. -/
abbrev Row := Option Nat × List Nat × List Nat
def waits (o : Oper) : List Nat := (o.after.toList.filter (Region.binds .any)).map (·.on)
def rowOf (ops : Array Oper) (o : Oper) : Row := (o.dst, o.looksAt ops, waits o)
def tableR (ops : Array Oper) : List Row := ops.toList.map (rowOf ops)
def ordered (x y : Row × Nat) : Bool := x.1.2.2.contains y.2 || y.1.2.2.contains x.2
/-- Two rows: where they touch one slot, one waits for the other. -/
def fits (x y : Row × Nat) : Bool :=
  (match x.1.1 with
   | some d => (!(y.1.2.1.contains d) || ordered x y) && (!(y.1.1 == some d) || ordered x y)
   | none => true) &&
  (match y.1.1 with
   | some d => !(x.1.2.1.contains d) || ordered x y
   | none => true)
def fitsAll (x : Row × Nat) : List (Row × Nat) → Bool
  | [] => true
  | y :: r => fits x y && fitsAll x r
def goodL : List (Row × Nat) → Bool
  | [] => true
  | x :: r => fitsAll x r && goodL r
def numbered : List Row → Nat → List (Row × Nat)
  | [], _ => []
  | x :: r, k => (x, k) :: numbered r (k + 1)
def inB (n : Nat) : List Row → Bool
  | [] => true
  | x :: r => (match x.1 with | some d => Nat.blt d n | none => true) && inB n r
def inA (m : Nat) : List Row → Bool
  | [] => true
  | x :: r => x.2.2.all (fun k => Nat.blt k m) && inA m r
def goodT (n m : Nat) (T : List Row) : Bool := goodL (numbered T 0) && (inB n T && inA m T)
theorem fits_comm (x y : Row × Nat) (h : fits x y = true) : fits y x = true := by
  obtain ⟨⟨dx, lx, ax⟩, i⟩ := x
  obtain ⟨⟨dy, ly, ay⟩, j⟩ := y
  have e : ∀ a b : Bool, (a || b) = (b || a) := fun a b => Bool.or_comm a b
  cases dx <;> cases dy <;> simp only [fits, ordered, Bool.and_true, Bool.true_and] at h ⊢
  · rw [e (ay.contains i)]; simpa using h
  · rw [e (ay.contains i)]; simpa using h
  · rename_i d d'
    rw [e (ay.contains i)]
    simp only [Bool.and_eq_true] at h ⊢
    obtain ⟨⟨h1, h2⟩, h3⟩ := h
    refine ⟨⟨h3, ?_⟩, h1⟩
    by_cases c : d = d'
    · subst c; simpa using h2
    · have : (some d == some d') = false := by simp [c]
      rw [this]; rfl
theorem fitsAll_mem {x y : Row × Nat} : ∀ {l}, fitsAll x l = true → y ∈ l → fits x y = true
  | z :: r, h, hy => by
    simp only [fitsAll, Bool.and_eq_true] at h
    rcases List.mem_cons.1 hy with rfl | hy
    · exact h.1
    · exact fitsAll_mem h.2 hy
theorem goodL_mem {x y : Row × Nat} : ∀ {l}, goodL l = true → x ∈ l → y ∈ l → x ≠ y → fits x y = true
  | z :: r, h, hx, hy, hne => by
    simp only [goodL, Bool.and_eq_true] at h
    rcases List.mem_cons.1 hx with e1 | h1
    · rcases List.mem_cons.1 hy with e2 | h2
      · exact absurd (e1.trans e2.symm) hne
      · rw [e1]; exact fitsAll_mem h.1 h2
    · rcases List.mem_cons.1 hy with e2 | h2
      · rw [e2]; exact fits_comm _ _ (fitsAll_mem h.1 h1)
      · exact goodL_mem h.2 h1 h2 hne
theorem mem_numbered : ∀ {T : List Row} {k i : Nat} {x : Row}, T[i]? = some x → (x, k + i) ∈ numbered T k
  | y :: r, k, 0, x, h => by simp at h; subst h; simp [numbered]
  | y :: r, k, i + 1, x, h => by
    simp at h
    have := mem_numbered (k := k + 1) h
    rw [numbered, show k + (i + 1) = k + 1 + i by omega]
    exact List.mem_cons_of_mem _ this
theorem inB_get {n : Nat} : ∀ {T : List Row} {i : Nat} {x : Row} {d : Nat}, inB n T = true → T[i]? = some x → x.1 = some d → d < n
  | y :: r, 0, x, d, h, hx, hd => by
    simp at hx; subst hx
    simp only [inB, Bool.and_eq_true, hd] at h
    exact Nat.blt_eq.mp h.1
  | y :: r, i + 1, x, d, h, hx, hd => by
    simp only [inB, Bool.and_eq_true] at h
    exact inB_get h.2 (by simpa using hx) hd

theorem inA_get {m : Nat} : ∀ {T : List Row} {i : Nat} {x : Row}, inA m T = true → T[i]? = some x → ∀ k ∈ x.2.2, k < m
  | y :: r, 0, x, h, hx => by
    simp at hx; subst hx
    simp only [inA, Bool.and_eq_true] at h
    exact fun k hk => Nat.blt_eq.mp (List.all_eq_true.1 h.1 k hk)
  | y :: r, i + 1, x, h, hx => by
    simp only [inA, Bool.and_eq_true] at h
    exact inA_get h.2 (by simpa using hx)

section
variable {P : Program} {ops : Array Oper} {Q : Exit → Act → World → Prop} {S : World → Prop} {T : List Row}

theorem table_get {i : Nat} {oi : Oper} (ht : tableR ops = T) (hi : ops[i]? = some oi) : T[i]? = some (rowOf ops oi) := by
  rw [← ht]; simp [tableR, hi]
theorem table_len (ht : tableR ops = T) : T.length = ops.size := by rw [← ht]; simp [tableR]
/-- May number i come up? -/
def readyT (T : List Row) (done : List Nat) (i : Nat) : Bool := !done.contains i && match T.drop i with | (_, _, a) :: _ => a.all (fun k => done.contains k) | [] => false
theorem lt_of_get {α : Type} {l : Array α} {i : Nat} {x : α} (h : l[i]? = some x) : i < l.size := by
  rcases Nat.lt_or_ge i l.size with h1 | h1
  · exact h1
  · rw [Array.getElem?_eq_none h1] at h; cases h
theorem drop_get {α : Type} {l : List α} {i : Nat} {x : α} (h : l[i]? = some x) : ∃ r, l.drop i = x :: r := by
  have hl : i < l.length := by
    rcases Nat.lt_or_ge i l.length with h1 | h1
    · exact h1
    · rw [List.getElem?_eq_none h1] at h; cases h
  rw [List.getElem?_eq_getElem hl] at h
  exact ⟨_, by rw [List.drop_eq_getElem_cons hl]; simp at h; rw [h]⟩
theorem mem_waits {o : Oper} {e : Edge} (he : e ∈ o.after) (hb : Region.binds .any e = true) : e.on ∈ waits o := by
  unfold waits
  rw [List.mem_map]
  exact ⟨e, by rw [List.mem_filter]; exact ⟨by simpa using he, hb⟩, rfl⟩
theorem waits_mem {o : Oper} {k : Nat} (h : k ∈ waits o) : ∃ e ∈ o.after, Region.binds .any e = true ∧ e.on = k := by
  unfold waits at h
  rw [List.mem_map] at h
  obtain ⟨e, h1, h2⟩ := h
  rw [List.mem_filter] at h1
  exact ⟨e, by simpa using h1.1, h1.2, h2⟩
theorem ready_iff {done : List Nat} {i : Nat} {oi : Oper} (hi : ops[i]? = some oi) (hin : ∀ k ∈ waits oi, k < ops.size) :
    i ∈ Region.ready .any ops (lset ops.size done) ↔ done.contains i = false ∧ ∀ k ∈ waits oi, done.contains k = true := by
  have hlt := lt_of_get hi
  rw [mem_ready, lset_get, if_pos hlt]
  constructor
  · rintro ⟨h1, o, ho, h2⟩
    rw [hi] at ho; cases ho
    refine ⟨h1, fun k hk => ?_⟩
    obtain ⟨e, he, hb, rfl⟩ := waits_mem hk
    have := h2 e he hb
    rwa [lset_get, if_pos (hin _ hk)] at this
  · rintro ⟨h1, h2⟩
    refine ⟨h1, oi, hi, fun e he hb => ?_⟩
    rw [lset_get, if_pos (hin _ (mem_waits he hb))]
    exact h2 _ (mem_waits he hb)
theorem readyT_mem {n : Nat} {done : List Nat} {i : Nat} {oi : Oper} (ht : tableR ops = T) (hg : goodT n ops.size T = true) (hi : ops[i]? = some oi) (h : readyT T done i = true) :
    i ∈ Region.ready .any ops (lset ops.size done) := by
  have hT := table_get ht hi
  simp only [goodT, Bool.and_eq_true] at hg
  rw [ready_iff hi (inA_get hg.2.2 hT)]
  obtain ⟨r, hr⟩ := drop_get hT
  unfold readyT at h
  rw [hr] at h
  simp only [rowOf, Bool.and_eq_true] at h
  exact ⟨by simpa using h.1, List.all_eq_true.1 h.2⟩
/-- What may come up touches nothing that another one, which does not wait for it, touches. -/
theorem apart_of_good {n : Nat} {done : List Nat} {i : Nat} {oi : Oper} (ht : tableR ops = T) (hg : goodT n ops.size T = true) (hi : ops[i]? = some oi) (hr : readyT T done i = true)
    (j : Nat) (oj : Oper) (hj : ops[j]? = some oj) (hne : j ≠ i) (hun : (lset ops.size done).getD j true = false) (hno : ∀ e ∈ oj.after, Region.binds .any e = true → e.on ≠ i) : oi.apart ops oj = true := by
  have hmi := readyT_mem ht hg hi hr
  have hTi := table_get ht hi
  have hTj := table_get ht hj
  simp only [goodT, Bool.and_eq_true] at hg
  rw [ready_iff hi (inA_get hg.2.2 hTi)] at hmi
  rw [lset_get, if_pos (lt_of_get hj)] at hun
  have hf := goodL_mem hg.1 (mem_numbered (k := 0) hTi) (mem_numbered (k := 0) hTj) (by
    intro c
    have := congrArg Prod.snd c
    simp at this
    exact hne this.symm)
  have hord : ordered (rowOf ops oi, 0 + i) (rowOf ops oj, 0 + j) = false := by
    simp only [ordered, rowOf, Nat.zero_add, Bool.or_eq_false_iff]
    constructor
    · rcases h : (waits oi).contains j with _ | _
      · rfl
      · have := hmi.2 j (by simpa using h)
        rw [hun] at this; cases this
    · rcases h : (waits oj).contains i with _ | _
      · rfl
      · obtain ⟨e, he, hb, hk⟩ := waits_mem (o := oj) (k := i) (by simpa using h)
        exact absurd hk (hno e he hb)
  unfold fits at hf
  rw [hord] at hf
  simp only [rowOf, Bool.or_false] at hf
  unfold Oper.apart
  cases h1 : oi.dst <;> cases h2 : oj.dst <;> rw [h1, h2] at hf <;> first | rfl | simpa [bne] using hf

/-- The walk through a region: the operations 'done' have come up, 'ws' is what they have written. -/
def W (P : Program) (ops : Array Oper) (Q : Exit → Act → World → Prop) (S : World → Prop) (L : List Value) (ds : List Deferred) (fuel : Nat) (done : List Nat) (ws : List (Nat × Value)) (w : World) : Prop :=
  (∀ p ∈ ws, p.1 < L.length) → wpAnyH P .any ops Q S fuel (lset ops.size done) ⟨(setAll L ws).toArray, ds⟩ w
theorem eval_W {L : List Value} {ws : List (Nat × Value)} (h : ∀ p ∈ ws, p.1 < L.length) (ds : List Deferred) : Act.eval ⟨(setAll L ws).toArray, ds⟩ = evalW L ws := by
  funext o
  cases o with
  | tmp t => exact setAll_get L ws h t
  | const v => rfl
  | global g => rfl
  | func f => rfl
def putW : Option Nat → Value → List (Nat × Value) → List (Nat × Value)
  | some d, v, ws => (d, v) :: ws
  | none, _, ws => ws
theorem put_W (L : List Value) (ws : List (Nat × Value)) (ds : List Deferred) (d : Option Nat) (v : Value) : Act.put ⟨(setAll L ws).toArray, ds⟩ d v = ⟨(setAll L (putW d v ws)).toArray, ds⟩ := by
  cases d with
  | none => rfl
  | some d => simp [Act.put, putW, setAll]
theorem putW_lt {L : List Value} {ws : List (Nat × Value)} {d : Option Nat} {v : Value} (h : ∀ p ∈ ws, p.1 < L.length) (hd : ∀ k, d = some k → k < L.length) : ∀ p ∈ putW d v ws, p.1 < L.length := by
  cases d with
  | none => exact h
  | some d =>
    intro p hp
    rcases List.mem_cons.1 hp with rfl | hp
    · exact hd _ rfl
    · exact h p hp
/-- Is an operation wanted? -/
def wantedW (T : List Row) (L : List Value) (ws : List (Nat × Value)) : Option (Nat × Bool) → Bool
  | none => true
  | some (g, want) => match T.drop g with
    | (some d, _, _) :: _ => (match look ws (base L) d with | .bool b => b == want | _ => false)
    | _ => false
theorem wanted_W {n : Nat} {L : List Value} {ws : List (Nat × Value)} {o : Oper} {b : Bool} (ds : List Deferred) (ht : tableR ops = T) (hg : goodT L.length n T = true) (h : ∀ p ∈ ws, p.1 < L.length) (hw : wantedW T L ws o.guard = b) :
    Region.wanted o (yielded ops (⟨(setAll L ws).toArray, ds⟩ : Act).tmps) = b := by
  subst hw
  unfold Region.wanted wantedW
  cases hgd : o.guard with
  | none => rfl
  | some p =>
    obtain ⟨g, want⟩ := p
    simp only [yielded]
    cases hj : ops[g]? with
    | none =>
      have : T.drop g = [] := by
        rw [List.drop_eq_nil_iff, table_len ht]
        rcases Nat.lt_or_ge g ops.size with h1 | h1
        · rw [Array.getElem?_eq_getElem h1] at hj; cases hj
        · exact h1
      rw [this]; rfl
    | some og =>
      have hT := table_get ht hj
      obtain ⟨r, hr⟩ := drop_get hT
      rw [hr]
      simp only [rowOf, Option.bind_some]
      cases hd : og.dst with
      | none => rfl
      | some d =>
        simp only [goodT, Bool.and_eq_true] at hg
        have hlt : d < L.length := inB_get hg.2.1 hT hd
        have hget := setAll_get L ws h d
        have hlt2 : d < (setAll L ws).toArray.size := by simp [setAll_len, hlt]
        simp only [Array.getD, hlt2, dif_pos] at hget
        simp only [Option.bind_some]
        rw [Array.getElem?_eq_getElem hlt2]
        have e : (setAll L ws).toArray[d] = look ws (base L) d := hget
        rw [e]
        cases look ws (base L) d <;> rfl

section
variable {L : List Value} {ds : List Deferred} {fuel : Nat} {done : List Nat} {ws : List (Nat × Value)} {w : World}
/-- All that is fixed through a region. -/
structure Reg (P : Program) (ops0 ops : Array Oper) (Q : Exit → Act → World → Prop) (L : List Value) (T : List Row) : Prop where
  ops_eq : ops = ops0
  tab : tableR ops = T
  good : goodT L.length ops.size T = true
  nosel : Region.noSelect ops = true
  calm : ∀ c d v a w, Q (.panic c) (Act.put a d v) w → Q (.panic c) a w
variable {ops0 : Array Oper}
theorem dst_lt (hR : Reg P ops0 ops Q L T) {i : Nat} {oi : Oper} (hi : ops[i]? = some oi) : ∀ k, oi.dst = some k → k < L.length := fun k hk => by
  have := hR.good
  simp only [goodT, Bool.and_eq_true] at this
  exact inB_get this.2.1 (table_get hR.tab hi) hk
theorem op_at (hR : Reg P ops0 ops Q L T) {i : Nat} {oi : Oper} {r : List Oper} (hi : ops0.toList.drop i = oi :: r) : ops[i]? = some oi := by
  rw [hR.ops_eq, ← Array.getElem?_toList, ← Nat.add_zero i, ← List.getElem?_drop, hi]; rfl
/-- Number i, which only reads, comes first. -/
theorem wg_take (i : Nat) {oi : Oper} {r : List Oper} {v : Value} (hR : Reg P ops0 ops Q L T) (hi : ops0.toList.drop i = oi :: r) (hr : readyT T done i = true)
    (hw : wantedW T L ws oi.guard = true) (hy : ∀ w, S w → (execOp (evalW L ws) oi).run P w = .ok (.value v) w) (hS : S w)
    (h : W P ops Q S L ds fuel (i :: done) (putW oi.dst v ws) w) : W P ops Q S L ds (fuel + 1) done ws w := fun hb => by
  have ho := op_at hR hi
  refine wpAnyH_first (v := v) ho (Region.noSelect_spec hR.nosel) (fun c a w => hR.calm c _ _ a w) fuel _ _ w (apart_of_good hR.tab hR.good ho hr) (readyT_mem hR.tab hR.good ho hr) ?_ hS ?_
  · exact .inl ⟨wanted_W ds hR.tab hR.good hb hw, fun w hw => by rw [eval_W hb]; exact hy w hw⟩
  · rw [put_W]; exact h (putW_lt hb (dst_lt hR ho))
/-- Number i is not wanted. -/
theorem wg_skip (i : Nat) {oi : Oper} {r : List Oper} (hR : Reg P ops0 ops Q L T) (hi : ops0.toList.drop i = oi :: r) (hr : readyT T done i = true)
    (hw : wantedW T L ws oi.guard = false) (hS : S w)
    (h : W P ops Q S L ds fuel (i :: done) (putW oi.dst undef ws) w) : W P ops Q S L ds (fuel + 1) done ws w := fun hb => by
  have ho := op_at hR hi
  refine wpAnyH_first (v := undef) ho (Region.noSelect_spec hR.nosel) (fun c a w => hR.calm c _ _ a w) fuel _ _ w (apart_of_good hR.tab hR.good ho hr) (readyT_mem hR.tab hR.good ho hr) ?_ hS ?_
  · exact .inr ⟨wanted_W ds hR.tab hR.good hb hw, rfl⟩
  · rw [put_W]; exact h (putW_lt hb (dst_lt hR ho))
/-- What comes of an operation that is carried out. -/
def StepW (P : Program) (S : World → Prop) (L : List Value) (ws : List (Nat × Value)) (oi : Oper) (w : World) (N : Value → World → Prop) : Prop :=
  (∃ v w', (execOp (evalW L ws) oi).run P w = .ok (.value v) w' ∧ S w' ∧ N v w') ∨ (∃ w', (execOp (evalW L ws) oi).run P w = .ok .skip w' ∧ S w' ∧ N undef w') ∨
  (∃ f args, (execOp (evalW L ws) oi).run P w = .ok (.enter f args) w ∧ Calls P f args w fun e w' => ∃ v, e = .returned v ∧ S w' ∧ N v w')
theorem StepW.wp {oi : Oper} {N : Value → World → Prop} {a : Act} {K : Act → World → Prop} (h : StepW P S L ws oi w N) (he : a.eval = evalW L ws) (hK : ∀ v w', S w' → N v w' → K (a.put oi.dst v) w') : Oper.wp P oi a w K Q := by
  unfold Oper.wp
  rw [he]
  rcases h with ⟨v, w', h1, h2, h3⟩ | ⟨w', h1, h2, h3⟩ | ⟨f, args, h1, h2⟩
  · rw [h1, Oper.upon_value]; exact hK v w' h2 h3
  · rw [h1, Oper.upon_skip]; exact hK undef w' h2 h3
  · rw [h1, Oper.upon_enter]
    exact h2.mono fun e w' ⟨v, he, hs, hn⟩ => by subst he; exact hK v w' hs hn
/-- Which numbers may come up. -/
def upT (done : List Nat) : List (Row × Nat) → List Nat
  | [] => []
  | (x, k) :: r => if !done.contains k && x.2.2.all (fun j => done.contains j) then k :: upT done r else upT done r
theorem mem_upT {done : List Nat} {x : Row} {k : Nat} (h1 : done.contains k = false) (h2 : ∀ j ∈ x.2.2, done.contains j = true) : ∀ {l}, (x, k) ∈ l → k ∈ upT done l
  | (y, j) :: r, h => by
    rcases List.mem_cons.1 h with e | h
    · cases e
      unfold upT
      rw [if_pos (by simp only [h1, Bool.not_false, Bool.true_and]; exact List.all_eq_true.2 h2)]
      exact List.mem_cons_self
    · have ih := mem_upT h1 h2 h
      unfold upT
      split
      · exact List.mem_cons_of_mem _ ih
      · exact ih
theorem ready_up (hR : Reg P ops0 ops Q L T) {j : Nat} (h : j ∈ Region.ready .any ops (lset ops.size done)) : j ∈ upT done (numbered T 0) := by
  obtain ⟨_, oj, hj, _⟩ := mem_ready.1 h
  have hT := table_get hR.tab hj
  have hg := hR.good
  simp only [goodT, Bool.and_eq_true] at hg
  rw [ready_iff hj (inA_get hg.2.2 hT)] at h
  have hm := mem_numbered (k := 0) hT
  rw [Nat.zero_add] at hm
  exact mem_upT (x := rowOf ops oj) h.1 h.2 hm
/-- One operation alone may come up. -/
theorem wg_step (i : Nat) {oi : Oper} {r : List Oper} (hR : Reg P ops0 ops Q L T) (hi : ops0.toList.drop i = oi :: r) (hr : upT done (numbered T 0) = [i])
    (hw : wantedW T L ws oi.guard = true)
    (h : StepW P S L ws oi w fun v w' => S w' → W P ops Q S L ds fuel (i :: done) (putW oi.dst v ws) w') (hr2 : readyT T done i = true) : W P ops Q S L ds (fuel + 1) done ws w := fun hb => by
  have ho := op_at hR hi
  refine ⟨fun h0 => ?_, fun j hj => ?_⟩
  · have := readyT_mem hR.tab hR.good ho hr2
    rw [h0] at this; cases this
  · have := ready_up hR hj
    rw [hr] at this
    obtain rfl := List.mem_singleton.1 this
    refine wpOp_step ho fun K' hK => ?_
    rw [if_pos (wanted_W ds hR.tab hR.good hb hw)]
    exact h.wp (eval_W hb ds) fun v w' hs hn => hK _ _ ⟨hs, by rw [put_W]; exact hn hs (putW_lt hb (dst_lt hR ho))⟩
/-- Either of two may come up. -/
theorem wg_two (i j : Nat) {oi oj : Oper} {r s : List Oper} (hR : Reg P ops0 ops Q L T) (hi : ops0.toList.drop i = oi :: r) (hj : ops0.toList.drop j = oj :: s) (hr : upT done (numbered T 0) = [i, j])
    (hwi : wantedW T L ws oi.guard = true) (hwj : wantedW T L ws oj.guard = true) (hr2 : readyT T done i = true)
    (h1 : StepW P S L ws oi w fun v w' => S w' → W P ops Q S L ds fuel (i :: done) (putW oi.dst v ws) w')
    (h2 : StepW P S L ws oj w fun v w' => S w' → W P ops Q S L ds fuel (j :: done) (putW oj.dst v ws) w') : W P ops Q S L ds (fuel + 1) done ws w := fun hb => by
  have ho := op_at hR hi
  have ho2 := op_at hR hj
  refine ⟨fun h0 => ?_, fun k hk => ?_⟩
  · have := readyT_mem hR.tab hR.good ho hr2
    rw [h0] at this; cases this
  · have := ready_up hR hk
    rw [hr] at this
    rcases List.mem_cons.1 this with rfl | this
    · refine wpOp_step ho fun K' hK => ?_
      rw [if_pos (wanted_W ds hR.tab hR.good hb hwi)]
      exact h1.wp (eval_W hb ds) fun v w' hs hn => hK _ _ ⟨hs, by rw [put_W]; exact hn hs (putW_lt hb (dst_lt hR ho))⟩
    · obtain rfl := List.mem_singleton.1 this
      refine wpOp_step ho2 fun K' hK => ?_
      rw [if_pos (wanted_W ds hR.tab hR.good hb hwj)]
      exact h2.wp (eval_W hb ds) fun v w' hs hn => hK _ _ ⟨hs, by rw [put_W]; exact hn hs (putW_lt hb (dst_lt hR ho2))⟩
theorem wg_three (i j m : Nat) {oi oj om : Oper} {r s q : List Oper} (hR : Reg P ops0 ops Q L T) (hi : ops0.toList.drop i = oi :: r) (hj : ops0.toList.drop j = oj :: s) (hm : ops0.toList.drop m = om :: q) (hr : upT done (numbered T 0) = [i, j, m])
    (hwi : wantedW T L ws oi.guard = true) (hwj : wantedW T L ws oj.guard = true) (hwm : wantedW T L ws om.guard = true) (hr2 : readyT T done i = true)
    (h1 : StepW P S L ws oi w fun v w' => S w' → W P ops Q S L ds fuel (i :: done) (putW oi.dst v ws) w')
    (h2 : StepW P S L ws oj w fun v w' => S w' → W P ops Q S L ds fuel (j :: done) (putW oj.dst v ws) w')
    (h3 : StepW P S L ws om w fun v w' => S w' → W P ops Q S L ds fuel (m :: done) (putW om.dst v ws) w') : W P ops Q S L ds (fuel + 1) done ws w := fun hb => by
  have ho := op_at hR hi
  have ho2 := op_at hR hj
  have ho3 := op_at hR hm
  refine ⟨fun h0 => ?_, fun k hk => ?_⟩
  · have := readyT_mem hR.tab hR.good ho hr2
    rw [h0] at this; cases this
  · have := ready_up hR hk
    rw [hr] at this
    rcases List.mem_cons.1 this with rfl | this
    · refine wpOp_step ho fun K' hK => ?_
      rw [if_pos (wanted_W ds hR.tab hR.good hb hwi)]
      exact h1.wp (eval_W hb ds) fun v w' hs hn => hK _ _ ⟨hs, by rw [put_W]; exact hn hs (putW_lt hb (dst_lt hR ho))⟩
    · rcases List.mem_cons.1 this with rfl | this
      · refine wpOp_step ho2 fun K' hK => ?_
        rw [if_pos (wanted_W ds hR.tab hR.good hb hwj)]
        exact h2.wp (eval_W hb ds) fun v w' hs hn => hK _ _ ⟨hs, by rw [put_W]; exact hn hs (putW_lt hb (dst_lt hR ho2))⟩
      · obtain rfl := List.mem_singleton.1 this
        refine wpOp_step ho3 fun K' hK => ?_
        rw [if_pos (wanted_W ds hR.tab hR.good hb hwm)]
        exact h3.wp (eval_W hb ds) fun v w' hs hn => hK _ _ ⟨hs, by rw [put_W]; exact hn hs (putW_lt hb (dst_lt hR ho3))⟩
/-- What a slot holds when the region begins. -/
theorem wg_read {L L0 : List Value} (h : L = L0) (k : Nat) {v : Value} {r : List Value} (e : L0.drop k = v :: r) : base L k = v := by
  subst h
  have : L[k]? = some v := by rw [← Nat.add_zero k, ← List.getElem?_drop, e]; rfl
  simp [base, this]
/-- The beginning. -/
theorem wg_begin {L0 : List Value} {id : Nat} {Q0 : Exit → Act → World → Prop} (T : List Row) (S : World → Prop) (hm : P.follows .mixedOrders = true) (ht : tableR ops0 = T) (hg : goodT L0.length ops0.size T = true) (hs : Region.noSelect ops0 = true)
    (hQ : ∀ c d v a w, Q0 (.panic c) (Act.put a d v) w → Q0 (.panic c) a w) (hS : S w.drew)
    (h : ∀ (ops : Array Oper) (Q : Exit → Act → World → Prop) (L : List Value), L = L0 → Reg P ops0 ops Q L T →
      Shut (∀ ws w, Q0 .normal ⟨(setAll L0 ws).toArray, ds⟩ w → Q .normal ⟨(setAll L ws).toArray, ds⟩ w) → S w.drew → W P ops Q S L ds ops0.size [] [] w.drew) :
    (Code.region id ops0 true).wp P Q0 ⟨L0.toArray, ds⟩ w := by
  refine wp_region_held_drew hm hS fun hS => ?_
  have := h ops0 Q0 L0 rfl ⟨rfl, ht, hg, hs, hQ⟩ (fun _ _ h => h) hS
  exact this (by simp)
/-- The gaps between the slots that were written, in rising order. -/
def mg : List Value → List (Nat × Value) → List Value
  | l, [] => l
  | [], _ => []
  | _ :: l, (0, v) :: r => v :: mg l r
  | x :: l, (g + 1, v) :: r => x :: mg l ((g, v) :: r)
def absT : Nat → List (Nat × Value) → List (Nat × Value)
  | _, [] => []
  | b, (g, v) :: r => (b + g, v) :: absT (b + g + 1) r
def lookO : List (Nat × Value) → Nat → Option Value
  | [], _ => none
  | (d, v) :: ws, k => if k = d then some v else lookO ws k
theorem setAll_get? (L : List Value) : ∀ (ws : List (Nat × Value)) (t : Nat), (setAll L ws)[t]? = if t < L.length then (lookO ws t).or (L[t]?) else none
  | [], t => by by_cases h : t < L.length <;> simp [setAll, lookO, h]
  | (d, v) :: ws, t => by
    have ih := setAll_get? L ws t
    rw [setAll, List.getElem?_set, lookO, setAll_len]
    by_cases e : t = d
    · subst e
      by_cases h : t < L.length <;> simp [h]
    · have e' : d ≠ t := fun c => e c.symm
      rw [if_neg e', ih, if_neg e]
theorem lookO_lt {k : Nat} : ∀ {r : List (Nat × Value)} {b : Nat}, k < b → lookO (absT b r) k = none
  | [], _, _ => rfl
  | (g, v) :: r, b, h => by
    rw [absT, lookO, if_neg (by omega)]
    exact lookO_lt (by omega)
theorem lookO_shift (s : Nat) : ∀ (r : List (Nat × Value)) (b k : Nat), lookO (absT (b + s) r) (k + s) = lookO (absT b r) k
  | [], _, _ => rfl
  | (g, v) :: r, b, k => by
    simp only [absT, lookO]
    have ih := lookO_shift s r (b + g + 1) k
    by_cases h : k = b + g
    · rw [if_pos h, if_pos (by omega)]
    · rw [if_neg h, if_neg (by omega), ← ih]
      congr 2; omega
theorem mg_get? : ∀ (L : List Value) (gs : List (Nat × Value)) (t : Nat), (mg L gs)[t]? = if t < L.length then (lookO (absT 0 gs) t).or (L[t]?) else none
  | l, [], t => by by_cases h : t < l.length <;> simp [mg, absT, lookO, h]
  | [], p :: r, t => by simp [mg]
  | x :: l, (0, v) :: r, t => by
    have e1 : lookO (absT 0 ((0, v) :: r)) t = if t = 0 then some v else lookO (absT 1 r) t := rfl
    rw [e1]
    cases t with
    | zero => simp [mg]
    | succ t =>
      have ih := mg_get? l r t
      have h1 := lookO_shift 1 r 0 t
      simp only [Nat.zero_add] at h1
      simp only [mg, List.getElem?_cons_succ, ih, List.length_cons, Nat.add_lt_add_iff_right, Nat.add_eq_zero_iff, Nat.one_ne_zero, and_false, if_false, h1]
  | x :: l, (g + 1, v) :: r, t => by
    have e1 : absT 0 ((g + 1, v) :: r) = absT 1 ((g, v) :: r) := by
      simp only [absT]
      rw [show 0 + (g + 1) = 1 + g by omega]
    rw [e1]
    cases t with
    | zero => simp [mg, lookO_lt (k := 0) (b := 1) (by omega)]
    | succ t =>
      have ih := mg_get? l ((g, v) :: r) t
      have h1 := lookO_shift 1 ((g, v) :: r) 0 t
      simp only [Nat.zero_add] at h1
      simp only [mg, List.getElem?_cons_succ, ih, List.length_cons, Nat.add_lt_add_iff_right, h1]
theorem lookO_perm : ∀ {a b : List (Nat × Value)}, a.Perm b → (a.map Prod.fst).Nodup → ∀ t, lookO a t = lookO b t := by
  intro a b h
  induction h with
  | nil => intro _ t; rfl
  | cons x _ ih =>
    intro hn t
    obtain ⟨d, v⟩ := x
    simp only [List.map_cons, List.nodup_cons] at hn
    rw [lookO, lookO, ih hn.2]
  | swap x y l =>
    intro hn t
    obtain ⟨d, v⟩ := x
    obtain ⟨d', v'⟩ := y
    simp only [List.map_cons, List.nodup_cons, List.mem_cons, not_or] at hn
    simp only [lookO]
    by_cases h1 : t = d
    · have h2 : ¬ t = d' := fun c => hn.1.1 (by omega)
      rw [if_pos h1, if_neg h2, if_pos h1]
    · rw [if_neg h1, if_neg h1]
  | trans p1 p2 ih1 ih2 =>
    intro hn t
    rw [ih1 hn, ih2 ((p1.map Prod.fst).nodup_iff.1 hn)]
/-- The slots in falling order, each by the number of its writing. -/
def insG (d : Nat) (v : Value) : List (Nat × Value) → List (Nat × Value)
  | [] => [(d, v)]
  | (d', v') :: r => if d' < d then (d, v) :: (d', v') :: r else if d' = d then (d, v) :: r else (d', v') :: insG d v r
theorem lookO_ins (d : Nat) (v : Value) : ∀ (r : List (Nat × Value)) (t : Nat), lookO (insG d v r) t = if t = d then some v else lookO r t
  | [], t => rfl
  | (d', v') :: r, t => by
    have ih := lookO_ins d v r t
    unfold insG
    split
    · rfl
    · split
      · rename_i h; subst h
        simp only [lookO]
        by_cases h : t = d' <;> simp [h]
      · rename_i h1 h2
        simp only [lookO, ih]
        by_cases h : t = d'
        · have : ¬ t = d := fun c => h2 (by omega)
          rw [if_pos h, if_neg this, if_pos h]
        · rw [if_neg h, if_neg h]
def sortG : List (Nat × Value) → List (Nat × Value)
  | [] => []
  | (d, v) :: r => insG d v (sortG r)
theorem lookO_sort : ∀ (ws : List (Nat × Value)) (t : Nat), lookO (sortG ws) t = lookO ws t
  | [], t => rfl
  | (d, v) :: r, t => by rw [sortG, lookO_ins, lookO, lookO_sort r t]
/-- The end: the frame is what it was, with what was written. -/
theorem wg_end {L0 L : List Value} {Q0 : Exit → Act → World → Prop} (hR : Reg P ops0 ops Q L T) (hK : Shut (∀ ws w, Q0 .normal ⟨(setAll L0 ws).toArray, ds⟩ w → Q .normal ⟨(setAll L ws).toArray, ds⟩ w))
    (gs : List (Nat × Value)) {M : List Value} (hd : upT done (numbered T 0) = []) (hsort : sortG ws = (absT 0 gs).reverse) (hM : mg L0 gs = M) (h : Q0 .normal ⟨M.toArray, ds⟩ w) : W P ops Q S L ds fuel done ws w := fun _ => by
  have hready : Region.ready .any ops (lset ops.size done) = [] := by
    rw [List.eq_nil_iff_forall_not_mem]
    intro j hj
    have := ready_up hR hj
    rw [hd] at this; cases this
  refine wpAnyH_done hready ?_ fuel
  refine hK _ _ ?_
  have e : setAll L0 ws = M := by
    rw [← hM]
    refine List.ext_getElem? fun t => ?_
    rw [setAll_get?, mg_get?, ← lookO_sort ws t, hsort]
    have hn : ∀ (g : List (Nat × Value)) (b : Nat), ((absT b g).map Prod.fst).Nodup ∧ ∀ k ∈ (absT b g).map Prod.fst, b ≤ k := by
      intro g
      induction g with
      | nil => intro b; simp [absT]
      | cons p r ih =>
        intro b
        obtain ⟨g, v⟩ := p
        obtain ⟨h1, h2⟩ := ih (b + g + 1)
        simp only [absT, List.map_cons, List.nodup_cons]
        refine ⟨⟨fun c => by have := h2 _ c; omega, h1⟩, fun k hk => ?_⟩
        rcases List.mem_cons.1 hk with rfl | hk
        · exact Nat.le_add_right _ _
        · have := h2 k hk; omega
    rw [lookO_perm (List.reverse_perm _) (((List.reverse_perm _).map _).nodup_iff.2 (hn gs 0).1)]
  rw [e]; exact h
theorem wg_call {f : FuncId} {args : Array Value} {oi : Oper} {N : Value → World → Prop} (h1 : (execOp (evalW L ws) oi).run P w = .ok (.enter f args) w) (h2 : Calls P f args w fun e w' => ∃ v, e = .returned v ∧ S w' ∧ N v w') : StepW P S L ws oi w N := .inr (.inr ⟨f, args, h1, h2⟩)
theorem wg_eff {v : Value} {w' : World} {oi : Oper} {N : Value → World → Prop} (h1 : (execOp (evalW L ws) oi).run P w = .ok (.value v) w') (h2 : S w') (h3 : N v w') : StepW P S L ws oi w N := .inl ⟨v, w', h1, h2, h3⟩
theorem wg_skp {w' : World} {oi : Oper} {N : Value → World → Prop} (h1 : (execOp (evalW L ws) oi).run P w = .ok .skip w') (h2 : S w') (h3 : N undef w') : StepW P S L ws oi w N := .inr (.inl ⟨w', h1, h2, h3⟩)
def sameB (a b : List Nat) : Bool := a.all (fun k => b.contains k) && b.all (fun k => a.contains k)
/-- In which order it came does not matter any more. -/
theorem wg_swap {done' : List Nat} {ws' : List (Nat × Value)} (h1 : sameB done done' = true) (h2 : sortG ws = sortG ws') (h : W P ops Q S L ds fuel done' ws' w) : W P ops Q S L ds fuel done ws w := fun hb => by
  simp only [sameB, Bool.and_eq_true] at h1
  have e1 : lset ops.size done = lset ops.size done' := by
    refine Array.ext (by rw [lset_size, lset_size]) fun i hi hi' => ?_
    have a := lset_get ops.size false done i
    have b := lset_get ops.size false done' i
    rw [lset_size] at hi
    rw [if_pos hi] at a b
    simp only [Array.getD, lset_size, hi, dif_pos] at a b
    have a' : (lset ops.size done)[i] = done.contains i := a
    have b' : (lset ops.size done')[i] = done'.contains i := b
    rw [a', b', Bool.eq_iff_iff]
    constructor
    · intro hc
      exact List.all_eq_true.1 h1.1 i (by simpa using hc)
    · intro hc
      exact List.all_eq_true.1 h1.2 i (by simpa using hc)
  have hl : ∀ t, lookO ws t = lookO ws' t := fun t => by rw [← lookO_sort ws t, h2, lookO_sort]
  have e2 : setAll L ws = setAll L ws' := List.ext_getElem? fun t => by rw [setAll_get?, setAll_get?, hl]
  have hm : ∀ (x : List (Nat × Value)) (p : Nat × Value), p ∈ x → ∃ v, lookO x p.1 = some v := by
    intro x
    induction x with
    | nil => intro p hp; cases hp
    | cons q r ih =>
      intro p hp
      obtain ⟨d, v⟩ := q
      by_cases e : p.1 = d
      · exact ⟨v, by rw [lookO, if_pos e]⟩
      · rcases List.mem_cons.1 hp with rfl | hp
        · exact absurd rfl e
        · obtain ⟨u, hu⟩ := ih p hp
          exact ⟨u, by rw [lookO, if_neg e, hu]⟩
  have hm2 : ∀ (x : List (Nat × Value)) (t : Nat) (v : Value), lookO x t = some v → ∃ p ∈ x, p.1 = t := by
    intro x
    induction x with
    | nil => intro t v h; cases h
    | cons q r ih =>
      intro t v h
      obtain ⟨d, u⟩ := q
      by_cases e : t = d
      · exact ⟨_, List.mem_cons_self, e.symm⟩
      · rw [lookO, if_neg e] at h
        obtain ⟨p, hp, he⟩ := ih t v h
        exact ⟨p, List.mem_cons_of_mem _ hp, he⟩
  rw [e1, e2]
  exact h fun p hp => by
    obtain ⟨v, hv⟩ := hm _ _ hp
    rw [← hl] at hv
    obtain ⟨q, hq, he⟩ := hm2 _ _ _ hv
    rw [← he]; exact hb q hq
theorem wg_join {α β γ : Type} {fuel' : Nat} {done' : List Nat} {F : α → β → γ → List (Nat × Value)} (R : α → β → γ → World → Prop)
    (main : (∀ a b c w', R a b c w' → W P ops Q S L ds fuel' done' (F a b c) w') → W P ops Q S L ds fuel done ws w) (rest : ∀ a b c w', R a b c w' → W P ops Q S L ds fuel' done' (F a b c) w') : W P ops Q S L ds fuel done ws w := main rest
theorem wg_join8 {α1 α2 α3 α4 α5 α6 α7 α8 : Type} {fuel' : Nat} {done' : List Nat} {F : α1 → α2 → α3 → α4 → α5 → α6 → α7 → α8 → List (Nat × Value)} (R : α1 → α2 → α3 → α4 → α5 → α6 → α7 → α8 → World → Prop)
    (main : (∀ a b c d e f g h w', R a b c d e f g h w' → W P ops Q S L ds fuel' done' (F a b c d e f g h) w') → W P ops Q S L ds fuel done ws w) (rest : ∀ a b c d e f g h w', R a b c d e f g h w' → W P ops Q S L ds fuel' done' (F a b c d e f g h) w') : W P ops Q S L ds fuel done ws w := main rest
/-- Only block O has turned. -/
def Only (O : Nat) (w X : World) : Prop := ∃ j v, X = w.setCell ⟨O, j, none⟩ v
theorem Only.ext {O : Nat} {a w X : World} (h : Only O w X) (hE : Ext a w) (hO : a.heap.size ≤ O) : Ext a X := by
  obtain ⟨j, v, rfl⟩ := h; exact hE.setCell hO v
theorem Only.size {O : Nat} {w X : World} (h : Only O w X) : X.heap.size = w.heap.size := by
  obtain ⟨j, v, rfl⟩ := h; simp
theorem Only.va {O : Nat} {w X : World} (h : Only O w X) {b o : Nat} {l : List Int} (hb : O ≠ b) (hv : VA w b o l) : VA X b o l := by
  obtain ⟨j, v, rfl⟩ := h
  exact ⟨fun i hi => by rw [World.cell?_setCell_other w _ _ _ (fun e => hb (congrArg Addr.block e))]; exact hv.1 i hi, hv.2⟩
theorem Only.box {O : Nat} {w X : World} (h : Only O w X) {b o : Nat} {u : Value} (hb : O ≠ b) (hv : BoxAt w b o u) : BoxAt X b o u := by
  obtain ⟨j, v, rfl⟩ := h; exact hv.other (p := ⟨O, j, none⟩) hb v
theorem Only.rows {O : Nat} {w X : World} (h : Only O w X) {b : Nat} {l : List Int} (hb : O ≠ b) (hv : RowsAt w b l) : RowsAt X b l := by
  obtain ⟨j, v, rfl⟩ := h; exact hv.other (p := ⟨O, j, none⟩) hb v
theorem Only.cell {O : Nat} {w X : World} (h : Only O w X) {p : Addr} {u : Value} (hb : O ≠ p.block) (hv : w.cell? p = some u) : X.cell? p = some u := by
  obtain ⟨j, v, rfl⟩ := h
  rw [World.cell?_setCell_other w _ _ _ (fun e => hb (congrArg Addr.block e))]; exact hv
/-- The values written, by where they stand in the list. -/
def valAt : List (Nat × Value) → Nat → Value
  | [], _ => undef
  | (_, v) :: _, 0 => v
  | _ :: r, p + 1 => valAt r p
def gsOf (ws : List (Nat × Value)) : List (Nat × Nat) → List (Nat × Value)
  | [] => []
  | (g, p) :: r => (g, valAt ws p) :: gsOf ws r
theorem wg_fin {L0 L : List Value} {Q0 : Exit → Act → World → Prop} (hR : Reg P ops0 ops Q L T) (hK : Shut (∀ ws w, Q0 .normal ⟨(setAll L0 ws).toArray, ds⟩ w → Q .normal ⟨(setAll L ws).toArray, ds⟩ w))
    (ks : List (Nat × Nat)) {M : List Value} (hd : upT done (numbered T 0) = []) (hsort : sortG ws = (absT 0 (gsOf ws ks)).reverse) (hM : mg L0 (gsOf ws ks) = M) (h : Q0 .normal ⟨M.toArray, ds⟩ w) : W P ops Q S L ds fuel done ws w := wg_end hR hK (gsOf ws ks) hd hsort hM h

end
end

end Go.Proofs.YtnfknekbbdfdfaaDoor

/- The walk over a list of what has been written: the frame stays behind a name from a function's head to its end. -/
namespace Go.Proofs.YtnfknekbbdfdfaaDoor
open Go.RowKit

section
variable {P : Program} {n : Nat} {L : List Value} {ws : List (Nat × Value)} {w : World} {Q : Exit → Act → World → Prop}

/-- The frame has n slots, and what was written lies in them. -/
def Bd (n : Nat) (L : List Value) (ws : List (Nat × Value)) : Prop := L.length = n ∧ ∀ p ∈ ws, p.1 < n
theorem Bd.lt (h : Bd n L ws) : ∀ p ∈ ws, p.1 < L.length := fun p hp => by rw [h.1]; exact h.2 p hp
theorem Bd.put (h : Bd n L ws) {d : Nat} {v : Value} (hd : Nat.blt d n = true) : Bd n L ((d, v) :: ws) :=
  ⟨h.1, fun p hp => by rcases List.mem_cons.1 hp with rfl | hp; exact Nat.blt_eq.mp hd; exact h.2 p hp⟩
/-- (Structures, that no unifier opens them.) -/
structure CW (P : Program) (c : Code) (Q : Exit → Act → World → Prop) (n : Nat) (L : List Value) (ws : List (Nat × Value)) (w : World) : Prop where
  out : Bd n L ws → c.wp P Q ⟨(setAll L ws).toArray, []⟩ w
structure QW (Q : Exit → Act → World → Prop) (e : Exit) (n : Nat) (L : List Value) (ws : List (Nat × Value)) (w : World) : Prop where
  out : Bd n L ws → Q e ⟨(setAll L ws).toArray, []⟩ w
structure PL (P : Program) (ops rest : List Oper) (Q : Exit → Act → World → Prop) (n : Nat) (L : List Value) (ws : List (Nat × Value)) (w : World) : Prop where
  out : Bd n L ws → wpList P ops.toArray Q rest ⟨(setAll L ws).toArray, []⟩ w
structure WD (P : Program) (ops : Array Oper) (Q : Exit → Act → World → Prop) (S : World → Prop) (L : List Value) (fuel : Nat) (done : List Nat) (ws : List (Nat × Value)) (w : World) : Prop where
  out : W P ops Q S L [] fuel done ws w

theorem calls_cw {f : FuncId} {fn : Func} {c : Code} {av : List Value} {R : Ending → World → Prop} (n : Nat) (ws : List (Nat × Value)) (hf : P.funcs[f]? = some fn) (hb : fn.body = some c) (hn : fn.ntmps = n)
    (he : av ++ List.replicate (n - av.length) undef = setAll (List.replicate n undef) ws) (hl : ws.all (fun p => Nat.blt p.1 n) = true)
    (h : ∀ L, CW P c (bodyPost P fn R) n L ws w) : Calls P f av.toArray w R := by
  refine calls_of_wp hf hb ?_
  have e : (av.toArray ++ Array.replicate (fn.ntmps - av.toArray.size) undef : Array Value) = (setAll (List.replicate n undef) ws).toArray := by
    rw [hn, ← he]; simp
  rw [e]
  exact (h _).out ⟨List.length_replicate, fun p hp => Nat.blt_eq.mp (List.all_eq_true.1 hl p hp)⟩

theorem cw_seq {x y : Code} (h : CW P x (Exit.then (y.wp P Q) Q) n L ws w) : CW P (.seq x y) Q n L ws w := ⟨fun b => wp_seq (h.out b)⟩
theorem cw_block {id : Nat} {c : Code} (h : CW P c (Exit.inBlock id Q) n L ws w) : CW P (.block id c) Q n L ws w := ⟨fun b => wp_block (h.out b)⟩
theorem cw_skip (h : QW Q .normal n L ws w) : CW P .skip Q n L ws w := ⟨fun b => wp_skip (h.out b)⟩
theorem cw_exit {id : Nat} (h : QW Q (.exit id) n L ws w) : CW P (.exit id) Q n L ws w := ⟨fun b => wp_exit (h.out b)⟩
theorem cw_ret (h : QW Q .ret n L ws w) : CW P .ret Q n L ws w := ⟨fun b => wp_ret (h.out b)⟩
theorem cw_plain {id : Nat} {l : List Oper} (h : PL P l l Q n L ws w) : CW P (.region id l.toArray false) Q n L ws w := ⟨fun b => wp_region_lit (h.out b)⟩
theorem cw_t {c : Operand} {x y : Code} (hc : evalW L ws c = .bool true) (h : CW P x Q n L ws w) : CW P (.cond c x y) Q n L ws w := ⟨fun b => wp_cond_true (by rw [eval_W b.lt]; exact hc) (h.out b)⟩
theorem cw_f {c : Operand} {x y : Code} (hc : evalW L ws c = .bool false) (h : CW P y Q n L ws w) : CW P (.cond c x y) Q n L ws w := ⟨fun b => wp_cond_false (by rw [eval_W b.lt]; exact hc) (h.out b)⟩
theorem cw_if {c : Operand} {x y : Code} (t : Bool) (hc : evalW L ws c = .bool t) (h1 : t = true → CW P x Q n L ws w) (h2 : t = false → CW P y Q n L ws w) : CW P (.cond c x y) Q n L ws w := by
  cases t
  · exact cw_f hc (h2 rfl)
  · exact cw_t hc (h1 rfl)

theorem qw_then {y : Code} (h : CW P y Q n L ws w) : QW (Exit.then (y.wp P Q) Q) .normal n L ws w := ⟨h.out⟩
theorem qw_then_ret {K : Act → World → Prop} (h : QW Q .ret n L ws w) : QW (Exit.then K Q) .ret n L ws w := ⟨h.out⟩
theorem qw_then_exit {K : Act → World → Prop} {id : Nat} (h : QW Q (.exit id) n L ws w) : QW (Exit.then K Q) (.exit id) n L ws w := ⟨h.out⟩
theorem qw_block {id : Nat} (h : QW Q .normal n L ws w) : QW (Exit.inBlock id Q) .normal n L ws w := ⟨h.out⟩
theorem qw_block_ret {id : Nat} (h : QW Q .ret n L ws w) : QW (Exit.inBlock id Q) .ret n L ws w := ⟨h.out⟩
theorem qw_block_out {id : Nat} (h : QW Q .normal n L ws w) : QW (Exit.inBlock id Q) (.exit id) n L ws w := ⟨fun b => by
  show (if id = id then _ else _)
  rw [if_pos rfl]; exact h.out b⟩
theorem qw_block_on {id id' : Nat} (hne : id' ≠ id) (h : QW Q (.exit id') n L ws w) : QW (Exit.inBlock id Q) (.exit id') n L ws w := ⟨fun b => by
  show (if id' = id then _ else _)
  rw [if_neg hne]; exact h.out b⟩

/-- What a function returns: its result slots and cells. -/
def ResV (P : Program) (ev : Operand → Value) (w : World) : List ResultVar → List Value → Prop
  | [], [] => True
  | .tmp t :: rs, v :: vs => ev (.tmp t) = v ∧ ResV P ev w rs vs
  | .cell a t :: rs, v :: vs => (∃ ad, ev (.tmp a) = .pointer (some ad) ∧ (loadVar t ad).run P w = .ok v w) ∧ ResV P ev w rs vs
  | _, _ => False
def resOf : List Value → Value
  | [v] => v
  | vs => .tuple vs.toArray
theorem res_map {ev : Operand → Value} {g : ResultVar → Sem Value} (h1 : ∀ t, g (.tmp t) = pure (ev (.tmp t))) (h2 : ∀ b t, g (.cell b t) = do loadVar t (← asAddr (ev (.tmp b)))) :
    ∀ {rs : List ResultVar} {vs : List Value}, ResV P ev w rs vs → (rs.mapM g).run P w = .ok vs w
  | [], [], _ => by simp [go_sem]
  | .tmp t :: rs, v :: vs, h => by
    have ih := res_map h1 h2 h.2
    rw [List.mapM_cons, h1, h.1]
    simp [ih, Result.andThen]
  | .cell b t :: rs, v :: vs, h => by
    have ih := res_map h1 h2 h.2
    obtain ⟨ad, e1, e2⟩ := h.1
    rw [List.mapM_cons, h2, e1]
    simp [ih, asAddr, e2, Result.andThen]
theorem results_g (fn : Func) (tmps : Array Value) : ∃ g : ResultVar → Sem Value, (∀ t, g (.tmp t) = pure (tmps.getD t undef)) ∧ (∀ b t, g (.cell b t) = do loadVar t (← asAddr (tmps.getD b undef))) ∧
    results fn tmps = (do let vs ← fn.results.mapM g; pure (if h : vs.size = 1 then vs[0] else .tuple vs)) := ⟨_, fun _ => rfl, fun _ _ => rfl, rfl⟩
theorem res_run {fn : Func} {a : Act} {rs : List ResultVar} {vs : List Value} (hf : fn.results = rs.toArray) (h : ResV P a.eval w rs vs) : (results fn a.tmps).run P w = .ok (resOf vs) w := by
  obtain ⟨g, h1, h2, e⟩ := results_g fn a.tmps
  have := res_map (P := P) (w := w) (ev := a.eval) h1 h2 h
  rw [e, hf, List.mapM_toArray]
  simp only [Sem.run_bind, Sem.run_map, this, Result.andThen]
  match vs with
  | [] => rfl
  | [v] => rfl
  | u :: v :: r => simp [resOf]
theorem qw_ret {fn : Func} {R : Ending → World → Prop} {rs : List ResultVar} (vs : List Value) (hf : fn.results = rs.toArray) (h : ResV P (evalW L ws) w rs vs) (hR : R (.returned (resOf vs)) w) : QW (bodyPost P fn R) .ret n L ws w := ⟨fun b =>
  bodyPost_ret (res_run hf (by rw [eval_W b.lt]; exact h)) rfl hR⟩
theorem qw_end {fn : Func} {R : Ending → World → Prop} {rs : List ResultVar} (vs : List Value) (hf : fn.results = rs.toArray) (h : ResV P (evalW L ws) w rs vs) (hR : R (.returned (resOf vs)) w) : QW (bodyPost P fn R) .normal n L ws w := ⟨fun b =>
  bodyPost_end (res_run hf (by rw [eval_W b.lt]; exact h)) rfl hR⟩

/-! One operation. -/
def StepN (P : Program) (ev : Operand → Value) (oi : Oper) (w : World) (N : Value → World → Prop) : Prop :=
  (∃ v w', (execOp ev oi).run P w = .ok (.value v) w' ∧ N v w') ∨ (∃ w', (execOp ev oi).run P w = .ok .skip w' ∧ N undef w') ∨
  (∃ f args, (execOp ev oi).run P w = .ok (.enter f args) w ∧ Calls P f args w fun e w' => ∃ v, e = .returned v ∧ N v w')
theorem StepN.wp {ev : Operand → Value} {oi : Oper} {N : Value → World → Prop} {a : Act} {K : Act → World → Prop} (h : StepN P ev oi w N) (he : a.eval = ev) (hK : ∀ v w', N v w' → K (a.put oi.dst v) w') : Oper.wp P oi a w K Q := by
  unfold Oper.wp
  rw [he]
  rcases h with ⟨v, w', h1, h3⟩ | ⟨w', h1, h3⟩ | ⟨f, args, h1, h2⟩
  · rw [h1, Oper.upon_value]; exact hK v w' h3
  · rw [h1, Oper.upon_skip]; exact hK undef w' h3
  · rw [h1, Oper.upon_enter]
    exact h2.mono fun e w' ⟨v, he, hn⟩ => by subst he; exact hK v w' hn
theorem StepN.toW {S : World → Prop} {oi : Oper} {N : Value → World → Prop} (h : StepN P (evalW L ws) oi w fun v w' => S w' ∧ N v w') : StepW P S L ws oi w fun v w' => S w' → N v w' := by
  rcases h with ⟨v, w', h1, h3⟩ | ⟨w', h1, h3⟩ | ⟨f, args, h1, h2⟩
  · exact .inl ⟨v, w', h1, h3.1, fun _ => h3.2⟩
  · exact .inr (.inl ⟨w', h1, h3.1, fun _ => h3.2⟩)
  · exact .inr (.inr ⟨f, args, h1, h2.mono fun e w' ⟨v, he, hn⟩ => ⟨v, he, hn.1, fun _ => hn.2⟩⟩)
theorem sn_call {ev : Operand → Value} {oi : Oper} {N : Value → World → Prop} {f : FuncId} {args : Array Value} (h1 : (execOp ev oi).run P w = .ok (.enter f args) w) (h2 : Calls P f args w fun e w' => ∃ v, e = .returned v ∧ N v w') : StepN P ev oi w N := .inr (.inr ⟨f, args, h1, h2⟩)
theorem sn_eff {ev : Operand → Value} {oi : Oper} {N : Value → World → Prop} {v : Value} {w' : World} (h1 : (execOp ev oi).run P w = .ok (.value v) w') (h3 : N v w') : StepN P ev oi w N := .inl ⟨v, w', h1, h3⟩
theorem sn_skp {ev : Operand → Value} {oi : Oper} {N : Value → World → Prop} {w' : World} (h1 : (execOp ev oi).run P w = .ok .skip w') (h3 : N undef w') : StepN P ev oi w N := .inr (.inl ⟨w', h1, h3⟩)
theorem sn_new {ev : Operand → Value} {oi : Oper} {N : Value → World → Prop} {us : Array Value} {t : TypeId} (h1 : (execOp ev oi).run P w = .ok (.value (.pointer (some ⟨w.heap.size, 0, none⟩))) (w.alloc (.cells us t)))
    (h : ∀ O X, w.heap.size = O → X.heap.size = O + 1 → Ext w X → (∀ i u, us[i]? = some u → BoxAt X O i u) → N (.pointer (some ⟨O, 0, none⟩)) X) : StepN P ev oi w N := by
  refine sn_eff h1 (h _ _ rfl (by simp) (Ext.alloc (Ext.refl _) _) (fun i u hu => ⟨?_, ?_⟩))
  · rw [cell_of_row _ _ i _ t (0, 0) (heap_alloc_new w _)]; exact hu
  · simp [go_sem]
theorem sn_newS {ev : Operand → Value} {oi : Oper} {N : Value → World → Prop} {us : Array Value} {t : TypeId} {k c : Nat} (h1 : (execOp ev oi).run P w = .ok (.value (.slice (some ⟨w.heap.size, 0, none⟩) k c)) (w.alloc (.cells us t)))
    (h : ∀ O X, w.heap.size = O → X.heap.size = O + 1 → Ext w X → (∀ i u, us[i]? = some u → BoxAt X O i u) → N (.slice (some ⟨O, 0, none⟩) k c) X) : StepN P ev oi w N := by
  refine sn_eff h1 (h _ _ rfl (by simp) (Ext.alloc (Ext.refl _) _) (fun i u hu => ⟨?_, ?_⟩))
  · rw [cell_of_row _ _ i _ t (0, 0) (heap_alloc_new w _)]; exact hu
  · simp [go_sem]
theorem sn_put {ev : Operand → Value} {oi : Oper} {N : Value → World → Prop} {O j : Nat} {u v : Value} (h1 : (execOp ev oi).run P w = .ok .skip (w.setCell ⟨O, j, none⟩ v)) (hO : BoxAt w O j u)
    (h : ∀ X, Only O w X → BoxAt X O j v → N undef X) : StepN P ev oi w N := by
  have hB : BoxAt (w.setCell ⟨O, j, none⟩ v) O j v := ⟨by have := hO.1; simp [go_sem, this], by have := hO.2; simpa [go_sem] using this⟩
  exact sn_skp h1 (h _ ⟨j, v, rfl⟩ hB)

/-! A region whose order is fixed. -/
def wantP (ops : List Oper) (L : List Value) (ws : List (Nat × Value)) : Option (Nat × Bool) → Bool
  | none => true
  | some (g, want) => match ops.drop g with
    | o :: _ => (match o.dst with | some d => (match look ws (base L) d with | .bool b => b == want | _ => false) | none => false)
    | [] => false
theorem wantP_spec {ops : List Oper} {o : Oper} {b : Bool} (h : Bd n L ws) (hok : ∀ x ∈ ops, ∀ d, x.dst = some d → d < n) (hw : wantP ops L ws o.guard = b) :
    Region.wanted o (yielded ops.toArray (⟨(setAll L ws).toArray, []⟩ : Act).tmps) = b := by
  subst hw
  unfold Region.wanted wantP
  cases hgd : o.guard with
  | none => rfl
  | some p =>
    obtain ⟨g, want⟩ := p
    have ho : ops.toArray[g]? = ops[g]? := by simp
    simp only [yielded, ho]
    cases hj : ops[g]? with
    | none =>
      have : ops.drop g = [] := by
        rw [List.drop_eq_nil_iff]
        rcases Nat.lt_or_ge g ops.length with h1 | h1
        · rw [List.getElem?_eq_getElem h1] at hj; cases hj
        · exact h1
      rw [this]; rfl
    | some og =>
      obtain ⟨r, hr⟩ := drop_get hj
      rw [hr]
      simp only [Option.bind_some]
      cases hd : og.dst with
      | none => rfl
      | some d =>
        have hlt : d < n := hok og (List.mem_of_getElem? hj) d hd
        have hget := setAll_get L ws h.lt d
        have hlt2 : d < (setAll L ws).toArray.size := by simp [setAll_len, h.1, hlt]
        simp only [Array.getD, hlt2, dif_pos] at hget
        simp only [Option.bind_some]
        rw [Array.getElem?_eq_getElem hlt2]
        have e : (setAll L ws).toArray[d] = look ws (base L) d := hget
        rw [e]
        cases look ws (base L) d <;> rfl
/-- All slots that a region writes lie in the frame. -/
def dstOk (n : Nat) : List Oper → Bool
  | [] => true
  | o :: r => (match o.dst with | some d => Nat.blt d n | none => true) && dstOk n r
theorem dstOk_spec {ops : List Oper} (h : dstOk n ops = true) : ∀ x ∈ ops, ∀ d, x.dst = some d → d < n := by
  induction ops with
  | nil => intro x hx; cases hx
  | cons o r ih =>
    unfold dstOk at h
    obtain ⟨h1, h2⟩ := Bool.and_eq_true_iff.1 h
    intro x hx d hd
    rcases List.mem_cons.1 hx with e | hx
    · rw [← e, hd] at h1; exact Nat.blt_eq.mp h1
    · exact ih h2 x hx d hd
theorem pl_nil {ops : List Oper} (h : QW Q .normal n L ws w) : PL P ops [] Q n L ws w := ⟨h.out⟩
theorem pl_take {ops rest : List Oper} {o : Oper} {d : Nat} (v : Value) (hdst : o.dst = some d) (hok : dstOk n ops = true) (hd : Nat.blt d n = true) (hw : wantP ops L ws o.guard = true)
    (hr : (execOp (evalW L ws) o).run P w = .ok (.value v) w) (h : PL P ops rest Q n L ((d, v) :: ws) w) : PL P ops (o :: rest) Q n L ws w := ⟨fun b => by
  refine wpList_step fun K hK => ?_
  rw [if_pos (wantP_spec b (dstOk_spec hok) hw)]
  unfold Oper.wp
  rw [eval_W b.lt, hr, Oper.upon_value]
  refine hK _ _ ?_
  rw [put_W, hdst]; exact h.out (b.put hd)⟩
theorem pl_skip {ops rest : List Oper} {o : Oper} {d : Nat} (hdst : o.dst = some d) (hok : dstOk n ops = true) (hd : Nat.blt d n = true) (hw : wantP ops L ws o.guard = false)
    (h : PL P ops rest Q n L ((d, undef) :: ws) w) : PL P ops (o :: rest) Q n L ws w := ⟨fun b => by
  refine wpList_step fun K hK => ?_
  rw [if_neg (by rw [wantP_spec b (dstOk_spec hok) hw]; simp)]
  refine hK _ _ ?_
  rw [put_W, hdst]; exact h.out (b.put hd)⟩
theorem pl_step {ops rest : List Oper} {o : Oper} {d : Nat} (hdst : o.dst = some d) (hok : dstOk n ops = true) (hd : Nat.blt d n = true) (hw : wantP ops L ws o.guard = true)
    (h : StepN P (evalW L ws) o w fun v w' => PL P ops rest Q n L ((d, v) :: ws) w') : PL P ops (o :: rest) Q n L ws w := ⟨fun b => by
  refine wpList_step fun K hK => ?_
  rw [if_pos (wantP_spec b (dstOk_spec hok) hw)]
  exact h.wp (eval_W b.lt []) fun v w' hn => hK _ _ (by rw [put_W, hdst]; exact hn.out (b.put hd))⟩
theorem pl_put {ops rest : List Oper} {o : Oper} (hdst : o.dst = none) (hok : dstOk n ops = true) (hw : wantP ops L ws o.guard = true)
    (h : StepN P (evalW L ws) o w fun _ w' => PL P ops rest Q n L ws w') : PL P ops (o :: rest) Q n L ws w := ⟨fun b => by
  refine wpList_step fun K hK => ?_
  rw [if_pos (wantP_spec b (dstOk_spec hok) hw)]
  exact h.wp (eval_W b.lt []) fun v w' hn => hK _ _ (by rw [put_W, hdst]; exact hn.out b)⟩
/-! A region that draws its order. -/
def Calm (Q : Exit → Act → World → Prop) : Prop := ∀ c d v a w, Q (.panic c) (Act.put a d v) w → Q (.panic c) a w
theorem calm_then {K : Act → World → Prop} (h : Calm Q) : Calm (Exit.then K Q) := fun c d v a w h' => h c d v a w h'
theorem calm_block {id : Nat} (h : Calm Q) : Calm (Exit.inBlock id Q) := fun c d v a w h' => h c d v a w h'
theorem calm_body {fn : Func} {R : Ending → World → Prop} : Calm (bodyPost P fn R) := fun c d v a w h => by cases d <;> exact h
theorem cw_draw {id : Nat} {ops0 : Array Oper} (T : List Row) (S : World → Prop) (hm : P.follows .mixedOrders = true) (ht : tableR ops0 = T) (hg : goodT n ops0.size T = true) (hs : Region.noSelect ops0 = true) (hQ : Calm Q) (hS : S w.drew)
    (h : ∀ (ops : Array Oper) (Q' : Exit → Act → World → Prop) (X : World), Ext w X → L.length = n → Reg P ops0 ops Q' L T → Shut (∀ ws w, QW Q .normal n L ws w → QW Q' .normal n L ws w) → WD P ops Q' S L ops0.size [] ws X) : CW P (.region id ops0 true) Q n L ws w := ⟨fun b => by
  refine wp_region_held_drew hm hS fun hS => ?_
  exact (h ops0 Q _ (Ext.drew (Ext.refl _)) b.1 ⟨rfl, ht, by rw [b.1]; exact hg, hs, hQ⟩ (fun _ _ h => h)).out b.lt⟩
variable {ops0 ops : Array Oper} {Q' : Exit → Act → World → Prop} {T : List Row} {S : World → Prop} {fuel : Nat} {done : List Nat}
theorem StepN.toD {S : World → Prop} {oi : Oper} {L' : Value → List (Nat × Value)} {Q' : Exit → Act → World → Prop} {ops : Array Oper} {fuel : Nat} {done : List Nat} (h : StepN P (evalW L ws) oi w fun v w' => S w' ∧ WD P ops Q' S L fuel done (L' v) w') : StepW P S L ws oi w fun v w' => S w' → W P ops Q' S L [] fuel done (L' v) w' :=
  StepN.toW (N := fun v w' => W P ops Q' S L [] fuel done (L' v) w') (by
    rcases h with ⟨v, w', h1, h3⟩ | ⟨w', h1, h3⟩ | ⟨f, args, h1, h2⟩
    · exact .inl ⟨v, w', h1, h3.1, h3.2.out⟩
    · exact .inr (.inl ⟨w', h1, h3.1, h3.2.out⟩)
    · exact .inr (.inr ⟨f, args, h1, h2.mono fun e w' ⟨v, he, hn⟩ => ⟨v, he, hn.1, hn.2.out⟩⟩))
theorem wd_end (hL : L.length = n) (hR : Reg P ops0 ops Q' L T) (hK : Shut (∀ ws w, QW Q .normal n L ws w → QW Q' .normal n L ws w)) (hd : upT done (numbered T 0) = []) (h : QW Q .normal n L ws w) : WD P ops Q' S L fuel done ws w := ⟨fun hb => by
  refine wpAnyH_done ?_ ?_ fuel
  · rw [List.eq_nil_iff_forall_not_mem]
    intro j hj
    have := ready_up hR hj
    rw [hd] at this; cases this
  · exact (hK _ _ h).out ⟨hL, fun p hp => by rw [← hL]; exact hb p hp⟩⟩
theorem wd_take (i : Nat) {d : Nat} {oi : Oper} {r : List Oper} (v : Value) (hR : Reg P ops0 ops Q' L T) (hi : ops0.toList.drop i = oi :: r) (hr : readyT T done i = true) (hdst : oi.dst = some d)
    (hw : wantedW T L ws oi.guard = true) (hy : ∀ w, S w → (execOp (evalW L ws) oi).run P w = .ok (.value v) w) (hS : S w)
    (h : WD P ops Q' S L fuel (i :: done) ((d, v) :: ws) w) : WD P ops Q' S L (fuel + 1) done ws w := ⟨wg_take i hR hi hr hw hy hS (by rw [hdst]; exact h.out)⟩
theorem wd_skip (i : Nat) {d : Nat} {oi : Oper} {r : List Oper} (hR : Reg P ops0 ops Q' L T) (hi : ops0.toList.drop i = oi :: r) (hr : readyT T done i = true) (hdst : oi.dst = some d)
    (hw : wantedW T L ws oi.guard = false) (hS : S w)
    (h : WD P ops Q' S L fuel (i :: done) ((d, undef) :: ws) w) : WD P ops Q' S L (fuel + 1) done ws w := ⟨wg_skip i hR hi hr hw hS (by rw [hdst]; exact h.out)⟩
theorem wd_step (i : Nat) {oi : Oper} {r : List Oper} (hR : Reg P ops0 ops Q' L T) (hi : ops0.toList.drop i = oi :: r) (hr : upT done (numbered T 0) = [i]) (hr2 : readyT T done i = true)
    (hw : wantedW T L ws oi.guard = true) (h : StepN P (evalW L ws) oi w fun v w' => S w' ∧ WD P ops Q' S L fuel (i :: done) (putW oi.dst v ws) w') : WD P ops Q' S L (fuel + 1) done ws w := ⟨wg_step i hR hi hr hw h.toD hr2⟩
theorem wd_two (i j : Nat) {oi oj : Oper} {r s : List Oper} (hR : Reg P ops0 ops Q' L T) (hi : ops0.toList.drop i = oi :: r) (hj : ops0.toList.drop j = oj :: s) (hr : upT done (numbered T 0) = [i, j]) (hr2 : readyT T done i = true)
    (hwi : wantedW T L ws oi.guard = true) (hwj : wantedW T L ws oj.guard = true)
    (h1 : StepN P (evalW L ws) oi w fun v w' => S w' ∧ WD P ops Q' S L fuel (i :: done) (putW oi.dst v ws) w')
    (h2 : StepN P (evalW L ws) oj w fun v w' => S w' ∧ WD P ops Q' S L fuel (j :: done) (putW oj.dst v ws) w') : WD P ops Q' S L (fuel + 1) done ws w := ⟨wg_two i j hR hi hj hr hwi hwj hr2 h1.toD h2.toD⟩
theorem wd_three (i j m : Nat) {oi oj om : Oper} {r s q : List Oper} (hR : Reg P ops0 ops Q' L T) (hi : ops0.toList.drop i = oi :: r) (hj : ops0.toList.drop j = oj :: s) (hm : ops0.toList.drop m = om :: q) (hr : upT done (numbered T 0) = [i, j, m]) (hr2 : readyT T done i = true)
    (hwi : wantedW T L ws oi.guard = true) (hwj : wantedW T L ws oj.guard = true) (hwm : wantedW T L ws om.guard = true)
    (h1 : StepN P (evalW L ws) oi w fun v w' => S w' ∧ WD P ops Q' S L fuel (i :: done) (putW oi.dst v ws) w')
    (h2 : StepN P (evalW L ws) oj w fun v w' => S w' ∧ WD P ops Q' S L fuel (j :: done) (putW oj.dst v ws) w')
    (h3 : StepN P (evalW L ws) om w fun v w' => S w' ∧ WD P ops Q' S L fuel (m :: done) (putW om.dst v ws) w') : WD P ops Q' S L (fuel + 1) done ws w := ⟨wg_three i j m hR hi hj hm hr hwi hwj hwm hr2 h1.toD h2.toD h3.toD⟩

/-! What of the frame is kept: the rest is forgotten. -/
def pickW (ws : List (Nat × Value)) : List Nat → Option (List (Nat × Value))
  | [] => some []
  | k :: ks => match lookO ws k, pickW ws ks with
    | some v, some r => some ((k, v) :: r)
    | _, _ => none
theorem pick_look : ∀ {ks : List Nat} {ws' : List (Nat × Value)}, pickW ws ks = some ws' → ∀ t v, lookO ws' t = some v → lookO ws t = some v
  | [], ws', h, t, v, ht => by cases h; cases ht
  | k :: ks, ws', h, t, v, ht => by
    unfold pickW at h
    cases e1 : lookO ws k with
    | none => rw [e1] at h; cases h
    | some u =>
      cases e2 : pickW ws ks with
      | none => rw [e1, e2] at h; cases h
      | some r =>
        rw [e1, e2] at h; cases h
        unfold lookO at ht
        by_cases e : t = k
        · rw [if_pos e] at ht; subst e; rw [e1]; exact ht
        · rw [if_neg e] at ht; exact pick_look e2 t v ht
theorem look_mem : ∀ {ws : List (Nat × Value)} {t : Nat} {v : Value}, lookO ws t = some v → (t, v) ∈ ws
  | (d, u) :: r, t, v, h => by
    unfold lookO at h
    by_cases e : t = d
    · rw [if_pos e] at h; cases h; subst e; exact List.mem_cons_self
    · rw [if_neg e] at h; exact List.mem_cons_of_mem _ (look_mem h)
theorem mem_look : ∀ {ws : List (Nat × Value)} {p : Nat × Value}, p ∈ ws → ∃ v, lookO ws p.1 = some v
  | (d, u) :: r, p, h => by
    by_cases e : p.1 = d
    · exact ⟨u, by rw [lookO, if_pos e]⟩
    · rcases List.mem_cons.1 h with rfl | h
      · exact absurd rfl e
      · obtain ⟨v, hv⟩ := mem_look h
        exact ⟨v, by rw [lookO, if_neg e, hv]⟩
theorem pick_set {ks : List Nat} {ws' : List (Nat × Value)} (h : pickW ws ks = some ws') : setAll (setAll L ws) ws' = setAll L ws := by
  refine List.ext_getElem? fun t => ?_
  rw [setAll_get?, setAll_len]
  split
  · rename_i ht
    cases e : lookO ws' t with
    | none => simp
    | some v =>
      have := pick_look h t v e
      rw [setAll_get?, if_pos ht, this]; rfl
  · rename_i ht
    rw [setAll_get?, if_neg ht]
theorem pick_bd {ks : List Nat} {ws' : List (Nat × Value)} (h : pickW ws ks = some ws') (b : Bd n L ws) : Bd n (setAll L ws) ws' :=
  ⟨by rw [setAll_len]; exact b.1, fun p hp => by
    obtain ⟨v, hv⟩ := mem_look hp
    exact b.2 (p.1, v) (look_mem (pick_look h _ _ hv))⟩
theorem cw_clean {c : Code} (ks : List Nat) {ws' : List (Nat × Value)} (hp : pickW ws ks = some ws') (h : ∀ L', CW P c Q n L' ws' w) : CW P c Q n L ws w := ⟨fun b => by
  have := (h (setAll L ws)).out (pick_bd hp b)
  rwa [pick_set hp] at this⟩
/-- Several ways, one continuation. -/
theorem cw_join {c : Code} (R : List (Nat × Value) → World → Prop) (main : (∀ L' ws' w', R ws' w' → QW Q .normal n L' ws' w') → CW P c Q n L ws w) (rest : ∀ L' ws' w', R ws' w' → QW Q .normal n L' ws' w') : CW P c Q n L ws w := main rest
theorem qw_leaf {R : List (Nat × Value) → World → Prop} (hJ : ∀ L' ws' w', R ws' w' → QW Q .normal n L' ws' w') (ks : List Nat) {ws' : List (Nat × Value)} (hp : pickW ws ks = some ws') (h : R ws' w) : QW Q .normal n L ws w := ⟨fun b => by
  have := (hJ (setAll L ws) ws' w h).out (pick_bd hp b)
  rwa [pick_set hp] at this⟩

/-! Loops. -/
theorem least {p : Nat → Prop} : (∃ m, p m) → ∃ m, p m ∧ ∀ k, p k → m ≤ k := by
  rintro ⟨m, hm⟩
  induction m using Nat.strongRecOn with
  | _ m ih =>
    by_cases h : ∃ k, k < m ∧ p k
    · obtain ⟨k, hk, hp⟩ := h; exact ih k hk hp
    · exact ⟨m, hm, fun k hk => Nat.le_of_not_lt fun hlt => h ⟨k, hlt, hk⟩⟩
def LoopK (n : Nat) (Inv : List (Nat × Value) → World → Nat → Prop) (m : Nat) : Act → World → Prop := fun a w => ∃ L' ws' m', m' < m ∧ Bd n L' ws' ∧ a = ⟨(setAll L' ws').toArray, []⟩ ∧ Inv ws' w m'
open Classical in
theorem cw_loop {c : Code} (ks : List Nat) (Inv : List (Nat × Value) → World → Nat → Prop) {ws0 : List (Nat × Value)} (hp : pickW ws ks = some ws0) (m0 : Nat) (h0 : Inv ws0 w m0)
    (round : ∀ m L' ws' w', Inv ws' w' m → CW P c (Exit.then (LoopK n Inv m) Q) n L' ws' w') : CW P (.loop c) Q n L ws w := ⟨fun b => by
  let J : Nat → Act → World → Prop := fun m a w => ∃ L' ws', Bd n L' ws' ∧ a = ⟨(setAll L' ws').toArray, []⟩ ∧ Inv ws' w m
  let μ : Act → World → Nat := fun a w => if h : ∃ m, J m a w then Classical.choose (least h) else 0
  have hμ : ∀ a w (h : ∃ m, J m a w), J (μ a w) a w ∧ ∀ k, J k a w → μ a w ≤ k := fun a w h => by
    have e : μ a w = Classical.choose (least h) := dif_pos h
    rw [e]; exact Classical.choose_spec (least h)
  refine wp_loop (fun a w => ∃ m, J m a w) μ ⟨m0, setAll L ws, ws0, pick_bd hp b, by rw [pick_set hp], h0⟩ fun a w h => ?_
  obtain ⟨⟨L', ws', hb, ha, hI⟩, _⟩ := hμ a w h
  have := (round (μ a w) L' ws' w hI).out hb
  rw [← ha] at this
  refine Code.wp_mono (fun e a' w' q => ?_) this
  cases e with
  | normal =>
    obtain ⟨L2, ws2, m2, hlt, hb2, ha2, hI2⟩ := q
    have hJ : J m2 a' w' := ⟨L2, ws2, hb2, ha2, hI2⟩
    exact ⟨⟨m2, hJ⟩, Nat.lt_of_le_of_lt ((hμ a' w' ⟨m2, hJ⟩).2 m2 hJ) hlt⟩
  | _ => exact q⟩
theorem qw_round {Inv : List (Nat × Value) → World → Nat → Prop} {m : Nat} (ks : List Nat) {ws' : List (Nat × Value)} (hp : pickW ws ks = some ws') (m' : Nat) (hlt : m' < m) (h : Inv ws' w m') : QW (Exit.then (LoopK n Inv m) Q) .normal n L ws w := ⟨fun b =>
  ⟨setAll L ws, ws', m', hlt, pick_bd hp b, by rw [pick_set hp], h⟩⟩
end

end Go.Proofs.YtnfknekbbdfdfaaDoor

/- Operations: what they yield, in the forms that the walk over a list of writes wants. -/
namespace Go.Proofs.YtnfknekbbdfdfaaDoor
open Go.RowKit

section
variable {P : Program} {ev : Operand → Value} {o : Oper} {w : World}
theorem ex_load {t : TypeId} {x : Operand} {p v : Value} (hop : o.op = .load t x) (hx : ev x = p) (h : (Instr.loadAt t p).run P w = .ok v w) : (execOp ev o).run P w = .ok (.value v) w := by
  simp [execOp, hop, hx, h, Result.andThen]
theorem ex_store {t : TypeId} {x y : Operand} {p v : Value} {w' : World} (hop : o.op = .store t x y) (hx : ev x = p) (hy : ev y = v) (h : (Instr.storeAt t p v).run P w = .ok () w') : (execOp ev o).run P w = .ok .skip w' := by
  simp [execOp, hop, hx, hy, h, Result.andThen]
theorem ex_index {t : TypeId} {x y : Operand} {p i v : Value} (hop : o.op = .indexAddr t x y) (hx : ev x = p) (hy : ev y = i) (h : (Instr.indexAt t p i).run P w = .ok v w) : (execOp ev o).run P w = .ok (.value v) w := by
  simp [execOp, hop, hx, hy, h, Result.andThen]
theorem ex_slice {t : TypeId} {x : Operand} {lo hi mx : Option Operand} {lv hv mv : Option Value} {p v : Value} (hop : o.op = .slice t x lo hi mx) (hx : ev x = p) (h1 : lo.map ev = lv) (h2 : hi.map ev = hv) (h3 : mx.map ev = mv)
    (h : (Instr.sliceAt t p lv hv mv).run P w = .ok v w) : (execOp ev o).run P w = .ok (.value v) w := by
  simp [execOp, hop, hx, h1, h2, h3, h, Result.andThen]
theorem ev_wrap {a : Int} {r : Result Next} (h : r = .ok (.value (.int .i64 (IntKind.i64.wrap a))) w) (h0 : -9223372036854775808 ≤ a) (h1 : a ≤ 9223372036854775807) : r = .ok (.value (.int .i64 a)) w := by
  have e : IntKind.i64.wrap a = a := by rw [IntKind.wrap_i64]; omega
  rw [h, e]
theorem ev_val {v v' : Value} {r : Result Next} (h : r = .ok (.value v) w) (e : v = v') : r = .ok (.value v') w := by rw [h, e]
theorem ev_int {a b : Int} {k : IntKind} {r : Result Next} (h : r = .ok (.value (.int k a)) w) (e : a = b) : r = .ok (.value (.int k b)) w := by rw [h, e]
theorem ev_bool {b b' : Bool} {r : Result Next} (h : r = .ok (.value (.bool b)) w) (e : b = b') : r = .ok (.value (.bool b')) w := by rw [h, e]
theorem ev_dec {p : Prop} [Decidable p] {r : Result Next} (h : r = .ok (.value (.bool (decide p))) w) (e : p) : r = .ok (.value (.bool true)) w := by rw [h, decide_eq_true e]
theorem ev_ndec {p : Prop} [Decidable p] {r : Result Next} (h : r = .ok (.value (.bool (decide p))) w) (e : ¬ p) : r = .ok (.value (.bool false)) w := by rw [h, decide_eq_false e]
theorem ev_eq {a b : Int} {r : Result Next} (h : r = .ok (.value (.bool (a == b))) w) (e : a = b) : r = .ok (.value (.bool true)) w := by rw [h, e]; simp
theorem ev_neq {a b : Int} {r : Result Next} (h : r = .ok (.value (.bool (a == b))) w) (e : a ≠ b) : r = .ok (.value (.bool false)) w := by rw [h]; simp [e]
theorem ev_ne {a b : Int} {r : Result Next} (h : r = .ok (.value (.bool (a != b))) w) (e : a ≠ b) : r = .ok (.value (.bool true)) w := by rw [h]; simp [e]
theorem ev_nne {a b : Int} {r : Result Next} (h : r = .ok (.value (.bool (a != b))) w) (e : a = b) : r = .ok (.value (.bool false)) w := by rw [h, e]; simp
end

theorem res_ld {P : Program} {t : TypeId} {ad : Addr} {v : Value} {w : World} (h : (Instr.loadAt t (.pointer (some ad))).run P w = .ok v w) : (loadVar t ad).run P w = .ok v w := h

/-! Sums and bits of naturals. -/
theorem ex_bin {P : Program} {ev : Operand → Value} {o : Oper} {w : World} {op : BinOp} {t t2 : TypeId} {x y : Operand} {a b : Int} {v : Value} (hop : o.op = .binOp op t x y t2) (hx : ev x = .int .i64 a) (hy : ev y = .int .i64 b)
    (h : (binOp op t (.int .i64 a) (.int .i64 b)).run P w = .ok v w) : (execOp ev o).run P w = .ok (.value v) w := by
  have e : (eqGuard op t x y (.int .i64 a) (.int .i64 b)).run P w = .ok () w := by cases op <;> simp [eqGuard]
  simp [execOp, hop, hx, hy, e, h, Result.andThen]
theorem bin_shr {P : Program} {w : World} {t : TypeId} {S i : Nat} (_hi : i < 64) : (binOp .shr t (.int .i64 (S : Int)) (.int .i64 (i : Int))).run P w = .ok (.int .i64 ((S / 2 ^ i : Nat) : Int)) w := by
  have h0 : ¬ ((i : Int) < 0) := by omega
  have h1 : min (i : Int).toNat 64 = i := by simp; omega
  have e : (S : Int).fdiv (2 ^ i) = ((S / 2 ^ i : Nat) : Int) := by
    rw [Int.fdiv_eq_ediv_of_nonneg _ (by exact Int.le_of_lt (Int.pow_pos (by decide)))]; simp
  simp only [binOp, Op.shift, if_neg h0, IntKind.bits, h1, e]
  rfl
theorem bin_shl1 {P : Program} {w : World} {t : TypeId} {i : Nat} (hi : i < 62) : (binOp .shl t (.int .i64 1) (.int .i64 (i : Int))).run P w = .ok (.int .i64 ((2 ^ i : Nat) : Int)) w := by
  have h0 : ¬ ((i : Int) < 0) := by omega
  have h1 : min (i : Int).toNat 64 = i := by simp; omega
  have h2 : (2 ^ i : Nat) < 2 ^ 62 := Nat.pow_lt_pow_right (by decide) hi
  have e : IntKind.i64.wrap (1 * 2 ^ i) = ((2 ^ i : Nat) : Int) := by
    rw [Int.one_mul, show ((2 : Int) ^ i) = ((2 ^ i : Nat) : Int) by simp, IntKind.wrap_i64]
    generalize (2 ^ i : Nat) = k at h2 ⊢
    omega
  simp only [binOp, Op.shift, if_neg h0, IntKind.bits, h1, e]
  rfl
theorem bin_rem {P : Program} {w : World} {t : TypeId} {a b : Nat} (hb : 0 < b) : (binOp .rem t (.int .i64 (a : Int)) (.int .i64 (b : Int))).run P w = .ok (.int .i64 ((a % b : Nat) : Int)) w := by
  have h0 : ¬ ((b : Int) = 0) := by omega
  have e : (a : Int).tmod (b : Int) = ((a % b : Nat) : Int) := by rw [Int.tmod_eq_emod_of_nonneg (by omega)]; simp
  simp only [binOp, Op.intDiv, if_neg h0, e]
  simp
theorem bin_quo {P : Program} {w : World} {t : TypeId} {a b : Nat} (hb : 0 < b) (ha : a ≤ 9223372036854775807) : (binOp .quo t (.int .i64 (a : Int)) (.int .i64 (b : Int))).run P w = .ok (.int .i64 ((a / b : Nat) : Int)) w := by
  have h0 : ¬ ((b : Int) = 0) := by omega
  have e : (a : Int).tdiv (b : Int) = ((a / b : Nat) : Int) := by rw [Int.tdiv_eq_ediv_of_nonneg (by omega)]; simp
  have h1 : a / b ≤ a := Nat.div_le_self _ _
  have e2 : IntKind.i64.wrap ((a / b : Nat) : Int) = ((a / b : Nat) : Int) := by
    rw [IntKind.wrap_i64]
    generalize a / b = q at h1 ⊢
    omega
  simp only [binOp, Op.intDiv, if_neg h0, e, e2]
  simp
theorem qw_cast {Q : Exit → Act → World → Prop} {e : Exit} {n : Nat} {L : List Value} {ws ws' : List (Nat × Value)} {w : World} (h : ws = ws') (g : QW Q e n L ws' w) : QW Q e n L ws w := h ▸ g
theorem VA.cell0 {w : World} {b : Nat} {l : List Int} (h : VA w b 0 l) {y : Nat} (hy : y < 24) : w.cell? ⟨b, y, none⟩ = some (.int .i64 ((Globe.rowN l y : Nat) : Int)) := by have := h.cell hy; rwa [Nat.zero_add] at this

/-- In the world X nothing but some cells of block O has turned. -/
structure Turns (O : Nat) (w X : World) : Prop where
  size : X.heap.size = w.heap.size
  cell' : ∀ p : Addr, p.block ≠ O → X.cell? p = w.cell? p
  froz' : ∀ p : Addr, X.frozen? p = w.frozen? p
  ext' : ∀ a, Ext a w → a.heap.size ≤ O → Ext a X
theorem Turns.ext {O : Nat} {a w X : World} (h : Turns O w X) (hE : Ext a w) (hO : a.heap.size ≤ O) : Ext a X := h.ext' a hE hO
theorem Turns.cell {O : Nat} {w X : World} (h : Turns O w X) {p : Addr} {u : Value} (hb : O ≠ p.block) (hv : w.cell? p = some u) : X.cell? p = some u := by
  rw [h.cell' p (fun e => hb e.symm)]; exact hv
theorem Turns.va {O : Nat} {w X : World} (h : Turns O w X) {b o : Nat} {l : List Int} (hb : O ≠ b) (hv : VA w b o l) : VA X b o l := ⟨fun i hi => h.cell hb (hv.1 i hi), hv.2⟩
theorem Turns.box {O : Nat} {w X : World} (h : Turns O w X) {b o : Nat} {u : Value} (hb : O ≠ b) (hv : BoxAt w b o u) : BoxAt X b o u := ⟨h.cell hb hv.1, by rw [h.froz']; exact hv.2⟩
theorem Turns.rows {O : Nat} {w X : World} (h : Turns O w X) {b : Nat} {l : List Int} (hb : O ≠ b) (hv : RowsAt w b l) : RowsAt X b l := ⟨hv.1, fun i hi => h.cell hb (hv.cell hi), fun i hi => by rw [h.froz']; exact hv.free hi⟩
theorem turns_set (w : World) (O j : Nat) (v : Value) : Turns O w (w.setCell ⟨O, j, none⟩ v) :=
  ⟨by simp, fun p hp => World.cell?_setCell_other w _ _ _ (fun e => hp (congrArg Addr.block e).symm), fun p => by simp [go_sem], fun _ hE hO => hE.setCell hO v⟩
theorem Turns.trans {O : Nat} {a b c : World} (h : Turns O a b) (k : Turns O b c) : Turns O a c :=
  ⟨k.size.trans h.size, fun p hp => (k.cell' p hp).trans (h.cell' p hp), fun p => (k.froz' p).trans (h.froz' p), fun x hE hO => k.ext' x (h.ext' x hE hO) hO⟩
section
variable {P : Program} {ev : Operand → Value} {oi : Oper} {w : World} {N : Value → World → Prop}
/-- A store into a box of the call's own: the world goes under a name. -/
theorem sn_set {O j : Nat} {u v : Value} (h1 : (execOp ev oi).run P w = .ok .skip (w.setCell ⟨O, j, none⟩ v)) (hO : BoxAt w O j u)
    (h : ∀ X, Turns O w X → BoxAt X O j v → (∀ i x, i ≠ j → BoxAt w O i x → BoxAt X O i x) → N undef X) : StepN P ev oi w N := by
  have hB : BoxAt (w.setCell ⟨O, j, none⟩ v) O j v := ⟨by have := hO.1; simp [go_sem, this], by have := hO.2; simpa [go_sem] using this⟩
  exact sn_skp h1 (h _ (turns_set _ _ _ _) hB fun i x hi hx => ⟨by rw [World.cell?_setCell_other w _ _ _ (fun e => hi (congrArg Addr.off e).symm)]; exact hx.1, by simp [go_sem, hx.2]⟩)
theorem sn_set2 {O j : Nat} {u u' v v' : Value} (h1 : (execOp ev oi).run P w = .ok .skip ((w.setCell ⟨O, j, none⟩ v).setCell ⟨O, j + 1, none⟩ v')) (hO : BoxAt w O j u) (hO' : BoxAt w O (j + 1) u')
    (h : ∀ X, Turns O w X → BoxAt X O j v → BoxAt X O (j + 1) v' → (∀ i x, i ≠ j → i ≠ j + 1 → BoxAt w O i x → BoxAt X O i x) → N undef X) : StepN P ev oi w N := by
  have k : ∀ (W : World) (j : Nat) (u v : Value), BoxAt W O j u → BoxAt (W.setCell ⟨O, j, none⟩ v) O j v := fun W j u v hO => ⟨by have := hO.1; simp [go_sem, this], by have := hO.2; simpa [go_sem] using this⟩
  have k2 : ∀ (W : World) (j i : Nat) (x v : Value), i ≠ j → BoxAt W O i x → BoxAt (W.setCell ⟨O, j, none⟩ v) O i x := fun W j i x v hi hx => ⟨by rw [World.cell?_setCell_other W _ _ _ (fun e => hi (congrArg Addr.off e).symm)]; exact hx.1, by simp [go_sem, hx.2]⟩
  exact sn_skp h1 (h _ ((turns_set _ _ _ _).trans (turns_set _ _ _ _)) (k2 _ _ _ _ _ (by omega) (k _ _ _ _ hO)) (k _ _ _ _ (k2 _ _ _ _ _ (by omega) hO')) fun i x hi hi' hx => k2 _ _ _ _ _ hi' (k2 _ _ _ _ _ hi hx))
end

end Go.Proofs.YtnfknekbbdfdfaaDoor

/- Loads, stores, indices and slices at the types of this seat. -/
namespace Go.Proofs.YtnfknekbbdfdfaaDoor
open Go.RowKit

theorem ix23 {w : World} {b o n c k : Nat} (hk : k < n) : (Instr.indexAt 23 (.slice (some ⟨b, o, none⟩) n c) (.int .i64 (k : Int))).run Tryd.prog w = .ok (.pointer (some ⟨b, o + k, none⟩)) w := by
  have : (0 : Int) ≤ (k : Int) := by omega
  have : (k : Int) < (n : Int) := by omega
  go_simp
theorem ix23z {w : World} {b n c k : Nat} (hk : k < n) : (Instr.indexAt 23 (.slice (some ⟨b, 0, none⟩) n c) (.int .i64 (k : Int))).run Tryd.prog w = .ok (.pointer (some ⟨b, k, none⟩)) w := by
  have h := ix23 (w := w) (b := b) (o := 0) (c := c) hk
  rwa [Nat.zero_add] at h
theorem ix33 {w : World} {b o n c k : Nat} (hk : k < n) : (Instr.indexAt 33 (.slice (some ⟨b, o, none⟩) n c) (.int .i64 (k : Int))).run Tryd.prog w = .ok (.pointer (some ⟨b, o + k, none⟩)) w := by
  have : (0 : Int) ≤ (k : Int) := by omega
  have : (k : Int) < (n : Int) := by omega
  go_simp
theorem ix33z {w : World} {b n c k : Nat} (hk : k < n) : (Instr.indexAt 33 (.slice (some ⟨b, 0, none⟩) n c) (.int .i64 (k : Int))).run Tryd.prog w = .ok (.pointer (some ⟨b, k, none⟩)) w := by
  have h := ix33 (w := w) (b := b) (o := 0) (c := c) hk
  rwa [Nat.zero_add] at h
theorem ix36 {w : World} {b o n c k : Nat} (hk : k < n) : (Instr.indexAt 36 (.slice (some ⟨b, o, none⟩) n c) (.int .i64 (k : Int))).run Tryd.prog w = .ok (.pointer (some ⟨b, o + k * 2, none⟩)) w := by
  have : (0 : Int) ≤ (k : Int) := by omega
  have : (k : Int) < (n : Int) := by omega
  go_simp
theorem ix36z {w : World} {b n c k : Nat} (hk : k < n) : (Instr.indexAt 36 (.slice (some ⟨b, 0, none⟩) n c) (.int .i64 (k : Int))).run Tryd.prog w = .ok (.pointer (some ⟨b, k * 2, none⟩)) w := by
  have h := ix36 (w := w) (b := b) (o := 0) (c := c) hk
  rwa [Nat.zero_add] at h
theorem ix39 {w : World} {b o n c k : Nat} (hk : k < n) : (Instr.indexAt 39 (.slice (some ⟨b, o, none⟩) n c) (.int .i64 (k : Int))).run Tryd.prog w = .ok (.pointer (some ⟨b, o + k * 2, none⟩)) w := by
  have : (0 : Int) ≤ (k : Int) := by omega
  have : (k : Int) < (n : Int) := by omega
  go_simp
theorem ix39z {w : World} {b n c k : Nat} (hk : k < n) : (Instr.indexAt 39 (.slice (some ⟨b, 0, none⟩) n c) (.int .i64 (k : Int))).run Tryd.prog w = .ok (.pointer (some ⟨b, k * 2, none⟩)) w := by
  have h := ix39 (w := w) (b := b) (o := 0) (c := c) hk
  rwa [Nat.zero_add] at h
theorem ld23 {w : World} {b o : Nat} {x0 : Value} (h0 : w.cell? ⟨b, o, none⟩ = some x0) : (Instr.loadAt 23 (.pointer (some ⟨b, o, none⟩))).run Tryd.prog w = .ok (x0) w := by go_simp
theorem ld25 {w : World} {b o : Nat} {x0 : Value} (h0 : w.cell? ⟨b, o, none⟩ = some x0) : (Instr.loadAt 25 (.pointer (some ⟨b, o, none⟩))).run Tryd.prog w = .ok (.agg #[x0]) w := by go_simp
theorem ld27 {w : World} {b o : Nat} {x0 x1 : Value} (h0 : w.cell? ⟨b, o, none⟩ = some x0) (h1 : w.cell? ⟨b, o + 1, none⟩ = some x1) : (Instr.loadAt 27 (.pointer (some ⟨b, o, none⟩))).run Tryd.prog w = .ok (.agg #[x0, x1]) w := by go_simp
theorem ld3 {w : World} {b o : Nat} {x0 : Value} (h0 : w.cell? ⟨b, o, none⟩ = some x0) : (Instr.loadAt 3 (.pointer (some ⟨b, o, none⟩))).run Tryd.prog w = .ok (x0) w := by go_simp
theorem ld35 {w : World} {b o : Nat} {x0 x1 : Value} (h0 : w.cell? ⟨b, o, none⟩ = some x0) (h1 : w.cell? ⟨b, o + 1, none⟩ = some x1) : (Instr.loadAt 35 (.pointer (some ⟨b, o, none⟩))).run Tryd.prog w = .ok (.agg #[x0, x1]) w := by go_simp
theorem st25 {w : World} {b o : Nat} {u0 : Value} {a0 : Option Addr} {n0 c0 : Nat} (h0 : w.cell? ⟨b, o, none⟩ = some u0) (f0 : w.frozen? ⟨b, o, none⟩ = false) : (Instr.storeAt 25 (.pointer (some ⟨b, o, none⟩)) (.agg #[(.slice a0 n0 c0)])).run Tryd.prog w = .ok () (w.setCell ⟨b, o, none⟩ (.slice a0 n0 c0)) := by go_simp
theorem st3 {w : World} {b o : Nat} {u0 : Value} {x0 : Int} (h0 : w.cell? ⟨b, o, none⟩ = some u0) (f0 : w.frozen? ⟨b, o, none⟩ = false) : (Instr.storeAt 3 (.pointer (some ⟨b, o, none⟩)) ((.int .i64 x0))).run Tryd.prog w = .ok () (w.setCell ⟨b, o, none⟩ (.int .i64 x0)) := by go_simp
theorem st35 {w : World} {b o : Nat} {u0 u1 : Value} {x0 : Int} {x1 : Int} (h0 : w.cell? ⟨b, o, none⟩ = some u0) (f0 : w.frozen? ⟨b, o, none⟩ = false) (h1 : w.cell? ⟨b, o + 1, none⟩ = some u1) (f1 : w.frozen? ⟨b, o + 1, none⟩ = false) : (Instr.storeAt 35 (.pointer (some ⟨b, o, none⟩)) (.agg #[(.int .i64 x0), (.int .i64 x1)])).run Tryd.prog w = .ok () ((w.setCell ⟨b, o, none⟩ (.int .i64 x0)).setCell ⟨b, o + 1, none⟩ (.int .i64 x1)) := by go_simp

end Go.Proofs.YtnfknekbbdfdfaaDoor
