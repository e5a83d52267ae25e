/- Contracts of the sun's reference: Range; few. -/
import Derived.Test.YtknlnmalaidaiaaDoorS9
import Derived.Test.YtknlnmalaidaiaaDoorMR
namespace Go.Proofs.YtknlnmalaidaiaaDoor
open Go.RowKit
open Sun

set_option maxHeartbeats 4000000 in
theorem rRange_yes {w0 : World} {b o : Nat} (c : Nat) {l : List Int} (f t : Int) (w : World) (h : VA w0 b o l) (hE : Ext w0 w) (hs : spB f t = true) (h60 : t - f ≤ 60) (hne : 0 < (Globe.cellsTo l 24).length) :
    Calls Tryd.prog 29 #[.agg #[.slice (some ⟨b, o, none⟩) 24 c], .agg #[.int .i64 f, .int .i64 t]] w fun e w' => e = .returned (.tuple #[.int .i64 (minL (hts f t (Globe.cellsTo l 24))), .int .i64 (maxL (hts f t (Globe.cellsTo l 24))), .int .i64 0]) ∧ Ext w w' := by
  replace h := h.ext hE
  clear hE
  have hv := h.2
  have hn := count_ok hv
  obtain ⟨m, hm⟩ : ∃ m, Globe.countL l = m := ⟨_, rfl⟩
  rw [hm] at hn
  have HM := Lib.hid hm
  rw [← hn] at hne
  clear hm hn
  have m1 : ((m : Int) == 0) = false := by simp; omega
  have m2 : (m == 0) = false := by simp; omega
  obtain ⟨hs1, hs2, hs3⟩ := spB_t.1 hs
  have H := Lib.hid h; have Hv := Lib.hid hv; clear h hv hs
  have g1 : ¬ f < 0 := by omega
  have g2 : ¬ t ≤ f := by omega
  have g3 : ¬ 1000001 < t := by omega
  have g4 : ¬ 60 < t - f := by omega
  go_enter Tryd.func29, Tryd.ntmps29
  go_wp2_with (first | (go_at_call 45; refine (rValid_c _ _ H.out.aa (by (repeat' (first | (with_reducible assumption) | (with_reducible exact Ext.refl _) | (with_reducible refine Ext.alloc ?_ _) | (with_reducible refine Ext.drew ?_) | (with_reducible refine Ext.drewN ?_ _) | (with_reducible refine Ext.setCell ?_ ?_ _) | (with_reducible refine Ext.trans ?_ (by assumption)) | go_size)))).mono ?_; rintro e w1 ⟨rfl, hb⟩; have hc := hb.cellE; have hf := hb.frozenE; have hz := hb.size; have ha := alloc_keeps w1; (try simp only [World.size_alloc] at hc hf hz); (try simp only [World.size_setCell] at hc hf hz); (try simp only [World.size_drew] at hc hf hz)) | (go_at_call 46; refine (rCount_c _ _ H.out.aa (by (repeat' (first | (with_reducible assumption) | (with_reducible exact Ext.refl _) | (with_reducible refine Ext.alloc ?_ _) | (with_reducible refine Ext.drew ?_) | (with_reducible refine Ext.drewN ?_ _) | (with_reducible refine Ext.setCell ?_ ?_ _) | (with_reducible refine Ext.trans ?_ (by assumption)) | go_size)))).mono ?_; rintro e w2 ⟨rfl, hb2⟩; rw [HM.out]; have hc2 := hb2.cellE; have hf2 := hb2.frozenE; have hz2 := hb2.size; have ha2 := alloc_keeps w2; (try simp only [World.size_alloc] at hc2 hf2 hz2); (try simp only [World.size_setCell] at hc2 hf2 hz2); (try simp only [World.size_drew] at hc2 hf2 hz2)))
  refine wp_name (fun V => Ext w V ∧ V.cell? ⟨w.heap.size, 0, none⟩ = some (.slice (some ⟨b, o, none⟩) 24 c) ∧ V.cell? ⟨w.heap.size + 1, 0, none⟩ = some (.int .i64 f) ∧ V.cell? ⟨w.heap.size + 1, 1, none⟩ = some (.int .i64 t)) ⟨by (repeat' (first | (with_reducible assumption) | (with_reducible exact Ext.refl _) | (with_reducible refine Ext.alloc ?_ _) | (with_reducible refine Ext.drew ?_) | (with_reducible refine Ext.drewN ?_ _) | (with_reducible refine Ext.setCell ?_ ?_ _) | (with_reducible refine Ext.trans ?_ (by assumption)) | go_size)), hb2.cell (hb.cell (by simp [go_sem])), hb2.cell (hb.cell (by simp [go_sem])), hb2.cell (hb.cell (by simp [go_sem]))⟩ ?_
  clear hb hc hf hz ha hb2 hc2 hf2 hz2 ha2
  rintro V ⟨hE, k1, s0, s1⟩
  have l1 : w.heap.size < V.heap.size := World.block_lt_of_cell? V _ k1
  have l2 : w.heap.size + 1 < V.heap.size := World.block_lt_of_cell? V _ s0
  go_loopw [8, 9, 10] (fun r q p wr => ∃ y : Nat, y ≤ 24 ∧ p = .int .i64 y ∧ r = .int .i64 (minL (hts f t (Globe.cellsTo l y))) ∧ q = .int .i64 (maxL (hts f t (Globe.cellsTo l y))) ∧ Ext V wr) (fun _ _ p _ => 24 - (intOf p).toNat)
  case atStart => exact ⟨0, by omega, rfl, by simp [Globe.cellsTo_zero, hts, minL], by simp [Globe.cellsTo_zero, hts, maxL], Ext.refl _⟩
  case round =>
    obtain ⟨y, hy, rfl, rfl, rfl, e6⟩ := hrel
    by_cases hlt : y < 24
    · have y0 : (0 : Int) ≤ (y : Int) := by omega
      have y1 : (y : Int) < 24 := by omega
      go_wp2_with fail
      go_loopw [8, 9, 11] (fun r q p wr => ∃ x : Nat, x ≤ 48 ∧ p = .int .i64 x ∧ r = .int .i64 (minL (hts f t (Globe.cellsTo l y ++ Sun.rowTo l y x))) ∧ q = .int .i64 (maxL (hts f t (Globe.cellsTo l y ++ Sun.rowTo l y x))) ∧ Ext V wr) (fun _ _ p _ => 48 - (intOf p).toNat)
      case atStart => exact ⟨0, by omega, rfl, by rw [show Sun.rowTo l y 0 = [] by simp [Sun.rowTo], List.append_nil], by rw [show Sun.rowTo l y 0 = [] by simp [Sun.rowTo], List.append_nil], e6⟩
      case round =>
        clear e6
        obtain ⟨x, hx, rfl, rfl, rfl, e6⟩ := hrel
        by_cases hlx : x < 48
        · have k2 := e6.cell k1
          have cR : wr.cell? ⟨b, o + y, none⟩ = some (.int .i64 (Globe.rowN l y : Nat)) := e6.cell (hE.cell (H.out.cell hlt))
          have hRv := Globe.rowN_lt Hv.out y
          have x0 : (0 : Int) ≤ (x : Int) := by omega
          have x1 : (x : Int) < 48 := by omega
          have hrt := Sun.rowTo_succ l y x
          have hbm := bit_mod2 (Globe.rowN l y) x
          have hge : (0 : Int) ≤ ((Globe.rowN l y : Nat) : Int) / 2 ^ x := by rw [div_pow_cast]; exact Int.natCast_nonneg _
          have htm : (((Globe.rowN l y : Nat) : Int) / 2 ^ x).tmod 2 = ((Globe.rowN l y : Nat) : Int) / 2 ^ x % 2 := Int.tmod_eq_emod_of_nonneg hge
          have hrn : (Globe.nth l y).toNat = Globe.rowN l y := rfl
          rw [hrn] at hrt
          rw [hbm] at htm
          cases hbit : (Globe.rowN l y).testBit x
          · rw [hbit, if_neg (by simp)] at htm hbm
            rw [hbit, if_neg (by simp), List.append_nil] at hrt
            have Hrt := Lib.hid hrt; clear hrt hrn hbit
            go_wp2_with fail
            go_roundw
            case rel => exact ⟨x + 1, by omega, by go_num, by rw [Hrt.out], by rw [Hrt.out], e6⟩
            case measure => simp [intOf]; omega
          · rw [hbit, if_pos rfl] at htm hbm hrt
            have Hrt := Lib.hid hrt; clear hrt hrn hbit
            have s0w := e6.cell s0
            go_wp2_with fail
            have hvc : Globe.vcB x y = true := Globe.vcB_t.2 (by omega)
            obtain ⟨D, hD⟩ : ∃ D : Nat, t - f = (D : Int) := ⟨(t - f).toNat, by omega⟩
            have HD : Hid ((t - f).toNat = D) := by show _ = _; omega
            have hD2 : t ≤ f + D ∧ f + D ≤ t := by omega
            clear hD hbm htm k2 cR s0w
            go_loopw [8, 9, 12] (fun r q p wr => ∃ k : Nat, k ≤ D ∧ p = .int .i64 (f + k) ∧ r = .int .i64 (minL (hts f t (Globe.cellsTo l y ++ Sun.rowTo l y x) ++ htsT f (x, y) k)) ∧ q = .int .i64 (maxL (hts f t (Globe.cellsTo l y ++ Sun.rowTo l y x) ++ htsT f (x, y) k)) ∧ Ext V wr) (fun _ _ p _ => (f + D - intOf p).toNat)
            case atStart => exact ⟨0, by omega, by simp, by rw [show htsT f (x, y) 0 = [] from rfl, List.append_nil], by rw [show htsT f (x, y) 0 = [] from rfl, List.append_nil], e6⟩
            case round =>
              clear e6
              obtain ⟨k, hk, rfl, rfl, rfl, e6⟩ := hrel
              have s1w := e6.cell s1
              have l2w : w.heap.size + 1 < wr.heap.size := World.block_lt_of_cell? wr _ s1w
              by_cases hkD : k < D
              · have hkt : f + (k : Int) < t := by omega
                have hm : minB (f + k) = true := minB_t.2 (by omega)
                have hsn := congrArg (hts f t (Globe.cellsTo l y ++ Sun.rowTo l y x) ++ ·) (htsT_succ f (x, y) k)
                dsimp only at hsn
                rw [← List.append_assoc] at hsn
                have HS := Lib.hid hsn; clear hsn
                go_wp2_with fail
                refine (rHeight_yes (x : Int) (y : Int) (f + k) _ hm hvc).mono ?_
                rintro e w1 ⟨rfl, hb⟩
                obtain ⟨hs, hhs⟩ : ∃ hs, hts f t (Globe.cellsTo l y ++ Sun.rowTo l y x) ++ htsT f (x, y) k = hs := ⟨_, rfl⟩
                rw [hhs]
                have HHS := Lib.hid hhs; clear hhs
                generalize hh : height (x : Int) (y : Int) (f + k) = h at *
                have HH := Lib.hid hh; clear hh
                go_wp2_with fail
                all_goals
                  go_roundw
                  case rel =>
                    refine ⟨k + 1, by omega, by go_num, ?_, ?_, by (repeat' (first | (with_reducible assumption) | (with_reducible exact Ext.refl _) | (with_reducible refine Ext.alloc ?_ _) | (with_reducible refine Ext.drew ?_) | (with_reducible refine Ext.drewN ?_ _) | (with_reducible refine Ext.setCell ?_ ?_ _) | (with_reducible refine Ext.trans ?_ (by assumption)) | go_size))⟩
                    · rw [HS.out, HHS.out, minL_snoc]; congr 1; split <;> omega
                    · rw [HS.out, HHS.out, maxL_snoc]; congr 1; split <;> omega
                  case measure => simp [intOf]; omega
              · obtain rfl : k = D := by omega
                go_wp2_with fail
                go_roundw
                case rel => exact ⟨x + 1, by omega, by go_num, by rw [Hrt.out, ← List.append_assoc, hts_app _ _ (Globe.cellsTo l y ++ Sun.rowTo l y x) [(x, y)], hts_one, HD.out], by rw [Hrt.out, ← List.append_assoc, hts_app _ _ (Globe.cellsTo l y ++ Sun.rowTo l y x) [(x, y)], hts_one, HD.out], e6⟩
                case measure => simp [intOf]; omega
        · obtain rfl : x = 48 := by omega
          go_wp2_with fail
          go_roundw
          case rel => exact ⟨y + 1, by omega, by go_num, by rw [Globe.cellsTo_succ, ← Sun.rowTo_all], by rw [Globe.cellsTo_succ, ← Sun.rowTo_all], e6⟩
          case measure => simp [intOf]; omega
    · obtain rfl : y = 24 := by omega
      go_wp2_with fail
      go_ret3
      exact ⟨rfl, by (repeat' (first | (with_reducible assumption) | (with_reducible exact Ext.refl _) | (with_reducible refine Ext.alloc ?_ _) | (with_reducible refine Ext.drew ?_) | (with_reducible refine Ext.drewN ?_ _) | (with_reducible refine Ext.setCell ?_ ?_ _) | (with_reducible refine Ext.trans ?_ (by assumption)) | go_size))⟩

theorem rRange_t {w0 : World} {a : Option Addr} {l : List Int} {n : Nat} (c : Nat) {v : Bool} (f t : Int) (w : World) (h : AA w0 a l n v) (hE : Ext w0 w) :
    Calls Tryd.prog 29 #[.agg #[.slice a n c], .agg #[.int .i64 f, .int .i64 t]] w fun e w' => e = .returned (.tuple #[.int .i64 (orZ (rgB f t l) (minL (hts f t (Globe.cellsTo l 24)))), .int .i64 (orZ (rgB f t l) (maxL (hts f t (Globe.cellsTo l 24)))), .int .i64 (er6 (rgB f t l))]) ∧ Ext w w' := by
  cases hB : rgB f t l
  · exact rRange_no c f t w h hE hB
  · obtain ⟨h1, h2, h3, h4, h5, h6⟩ := rgB_t hB
    have hv := h.2.2.2
    rw [h5] at hv
    subst hv
    obtain ⟨b, o, rfl, rfl, r⟩ := h.va
    exact rRange_yes c f t w r hE (spB_t.2 ⟨h1, h2, h3⟩) h4 h6

/-- At most 25 rows of an area. -/
def few25 (l : List Int) : List Int := l.take 25
theorem nth_take {l : List Int} {k i : Nat} (h : i < k) : Globe.nth (l.take k) i = Globe.nth l i := by unfold Globe.nth; rw [List.getElem?_take_of_lt h]
theorem few_at {w : World} {a : Option Addr} {l : List Int} (h : IntsAt w a l) : AA w a (few25 l) (min l.length 25) (Globe.validL (few25 l)) := by
  refine ⟨?_, by unfold few25; rw [List.length_take, Nat.min_comm], by omega, rfl⟩
  rcases h with rfl | ⟨b, off, rfl, h⟩
  · exact .inl rfl
  · refine .inr ⟨b, off, rfl, fun i hi => ?_⟩
    unfold few25 at hi ⊢
    rw [List.length_take] at hi
    rw [nth_take (by omega)]
    exact h i (by omega)
set_option maxHeartbeats 1000000 in
theorem few_c (a : Option Addr) (n c : Nat) (w : World) (ha : n = 0 ∨ ∃ b off, a = some ⟨b, off, none⟩) (hc : n ≤ c) (hc2 : c ≤ 9223372036854775807) (h0 : a = none → c = 0) :
    Calls Tryd.prog 27 #[.agg #[.slice a n c]] w fun e w' => e = .returned (.agg #[.slice a (min n 25) c]) ∧ Ext w w' := by
  by_cases h25 : n ≤ 25
  · have hm : min n 25 = n := by omega
    rw [hm]
    clear hm
    have k1 : ¬ (25 : Int) < (n : Int) := by omega
    have k2 : (n : Int) ≤ (c : Int) := by omega
    go_enter Tryd.func27, Tryd.ntmps27
    go_wp2_with fail
    refine bodyPost_ret (v := .agg #[.slice a n c]) (by simp [results, Tryd.results27, go_sem]) rfl ⟨rfl, by (repeat' (first | (with_reducible assumption) | (with_reducible exact Ext.refl _) | (with_reducible refine Ext.alloc ?_ _) | (with_reducible refine Ext.drew ?_) | (with_reducible refine Ext.drewN ?_ _) | (with_reducible refine Ext.setCell ?_ ?_ _) | (with_reducible refine Ext.trans ?_ (by assumption)) | go_size))⟩
  · have hm : min n 25 = 25 := by omega
    rw [hm]
    clear hm
    have k1 : (25 : Int) < (n : Int) := by omega
    have k2 : (25 : Int) ≤ (c : Int) := by omega
    obtain ⟨b, off, rfl⟩ := ha.resolve_left (by omega)
    go_enter Tryd.func27, Tryd.ntmps27
    go_wp2_with fail
    refine bodyPost_ret (v := .agg #[.slice (some ⟨b, off, none⟩) 25 c]) (by simp [results, Tryd.results27, go_sem]) rfl ⟨rfl, by (repeat' (first | (with_reducible assumption) | (with_reducible exact Ext.refl _) | (with_reducible refine Ext.alloc ?_ _) | (with_reducible refine Ext.drew ?_) | (with_reducible refine Ext.drewN ?_ _) | (with_reducible refine Ext.setCell ?_ ?_ _) | (with_reducible refine Ext.trans ?_ (by assumption)) | go_size))⟩

end Go.Proofs.YtknlnmalaidaiaaDoor
