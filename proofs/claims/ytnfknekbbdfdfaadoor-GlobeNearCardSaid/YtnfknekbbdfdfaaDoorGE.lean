/- Contracts of package globe: With, Same. -/
import Derived.Test.YtnfknekbbdfdfaaDoorGB
import Derived.Test.YtnfknekbbdfdfaaDoorGD
namespace Go.Proofs.YtnfknekbbdfdfaaDoor
open Go.RowKit

theorem boxB_one (x y : Int) : boxB x y 1 1 = Globe.vcB x y := by
  rw [Bool.eq_iff_iff, boxB_t, Globe.vcB_t]; omega
theorem union_box {l : List Int} (h : Globe.validL l = true) {x y : Nat} (hx : x < 48) (hy : y < 24) : Globe.unionL l (Globe.boxL x y 1 1) = Globe.putL l x y := by
  refine Globe.ext_has (Globe.union_valid h (Globe.box_valid _ _ _ _)) (Globe.valid_put h hx) fun x' y' hx' hy' => ?_
  rw [Globe.has_union hy', Globe.has_box hx (by omega) hx' hy', Globe.has_put (by rw [Globe.len_of_valid h]; exact hy)]
  congr 1
  rw [Bool.eq_iff_iff]
  simp only [Bool.and_eq_true, decide_eq_true_eq]
  omega

set_option maxHeartbeats 1000000 in
theorem With_v {w0 : World} {b o : Nat} (c : Nat) {l : List Int} (x y : Nat) (w : World) (h : VA w0 b o l) (hE : Ext w0 w) (hx : x < 48) (hy : y < 24) :
    Calls Tryd.prog 29 #[.agg #[.slice (some ⟨b, o, none⟩) 24 c], .agg #[.int .i64 (x : Int), .int .i64 (y : Int)]] w (RetV w (Globe.putL l x y)) := by
  replace h := h.ext hE
  clear hE
  have hu := union_box h.2 hx hy
  have Hu := Lib.hid hu; clear hu
  have hb1 : boxB x y 1 1 = true := by rw [boxB_one, Globe.vcB_t]; omega
  go_enter Tryd.func29, Tryd.ntmps29
  go_wp2_with (first | (go_at_call 19; refine (Box_v _ _ _ _ _ hb1).mono ?_; rintro e w1 ⟨B, k, rfl, hB, hr, hv, hb⟩; have hc := hb.cellE; have hf := hb.frozenE; have hz := hb.size; have ha := alloc_keeps w1; (try simp only [World.size_alloc] at hc hf hz); (try simp only [World.size_setCell] at hc hf hz); (try simp only [World.size_drew] at hc hf hz)) | (go_at_call 37; refine (Union_v _ _ _ h (by (repeat' (first | (with_reducible assumption) | (with_reducible exact Ext.refl _) | (with_reducible refine Ext.alloc ?_ _) | (with_reducible refine Ext.drew ?_) | (with_reducible refine Ext.drewN ?_ _) | (with_reducible refine Ext.setCell ?_ ?_ _) | (with_reducible refine Ext.trans ?_ (by assumption)) | go_size))) hv (by (repeat' (first | (with_reducible assumption) | (with_reducible exact Ext.refl _) | (with_reducible refine Ext.alloc ?_ _) | (with_reducible refine Ext.drew ?_) | (with_reducible refine Ext.drewN ?_ _) | (with_reducible refine Ext.setCell ?_ ?_ _) | (with_reducible refine Ext.trans ?_ (by assumption)) | go_size)))).mono ?_; rintro e w2 ⟨B2, k2, rfl, hB2, hr2, hv2, hb2⟩; have hc2 := hb2.cellE; have hf2 := hb2.frozenE; have hz2 := hb2.size; have ha2 := alloc_keeps w2; (try simp only [World.size_alloc] at hc2 hf2 hz2); (try simp only [World.size_setCell] at hc2 hf2 hz2); (try simp only [World.size_drew] at hc2 hf2 hz2)))
  refine bodyPost_ret (v := .tuple #[.agg #[.slice (some ⟨B2, 0, none⟩) 24 k2], .int .i64 0]) (by simp [results, Tryd.results29, go_sem, *]) rfl ?_
  rw [Int.toNat_natCast, Int.toNat_natCast, show (1 : Int).toNat = 1 from rfl, Hu.out] at hr2 hv2
  have hne : w.heap.size + 1 + 1 ≠ B2 := by simp at hB2; omega
  have hr3 := hr2.other (p := ⟨w.heap.size + 1 + 1, 0, none⟩) hne (.slice (some ⟨B2, 0, none⟩) 24 k2)
  exact ⟨B2, k2, rfl, by simp at hB2; omega, hr3, hr3.va hv2.2, by (repeat' (first | (with_reducible assumption) | (with_reducible exact Ext.refl _) | (with_reducible refine Ext.alloc ?_ _) | (with_reducible refine Ext.drew ?_) | (with_reducible refine Ext.drewN ?_ _) | (with_reducible refine Ext.setCell ?_ ?_ _) | (with_reducible refine Ext.trans ?_ (by assumption)) | go_size))⟩
set_option maxHeartbeats 1000000 in
theorem With_n (a : Option Addr) (l : List Int) (n c : Nat) (v : Bool) (x y : Int) (w : World) (h : AA w a l n v) (hv : (v && Globe.vcB x y) = false) :
    Calls Tryd.prog 29 #[.agg #[.slice a n c], .agg #[.int .i64 x, .int .i64 y]] w (RetErr w 50) := by
  have hb1 := boxB_one x y
  cases hq : Globe.vcB x y
  · rw [hq] at hb1
    clear hv
    go_enter Tryd.func29, Tryd.ntmps29
    go_wp2_with (go_at_call 19; refine (Box_n _ _ _ _ _ hb1).mono ?_; rintro e w1 ⟨rfl, hb⟩; have hc := hb.cellE; have hf := hb.frozenE; have hz := hb.size; have ha := alloc_keeps w1; (try simp only [World.size_alloc] at hc hf hz); (try simp only [World.size_setCell] at hc hf hz); (try simp only [World.size_drew] at hc hf hz))
    ((try simp only [Exit.inBlock, Exit.then]); refine bodyPost_ret (v := .tuple #[.agg #[.slice none 0 0], .int .i64 50]) (by simp [results, Tryd.results29, go_sem, *]) rfl ?_)
    exact ⟨rfl, by (repeat' (first | (with_reducible assumption) | (with_reducible exact Ext.refl _) | (with_reducible refine Ext.alloc ?_ _) | (with_reducible refine Ext.drew ?_) | (with_reducible refine Ext.drewN ?_ _) | (with_reducible refine Ext.setCell ?_ ?_ _) | (with_reducible refine Ext.trans ?_ (by assumption)) | go_size))⟩
  · rw [hq] at hb1
    obtain rfl : v = false := by simpa [hq] using hv
    clear hv
    go_enter Tryd.func29, Tryd.ntmps29
    go_wp2_with (first | (go_at_call 19; refine (Box_v _ _ _ _ _ hb1).mono ?_; rintro e w1 ⟨B, k, rfl, hB, hr, hv, hb⟩; have hc := hb.cellE; have hf := hb.frozenE; have hz := hb.size; have ha := alloc_keeps w1; (try simp only [World.size_alloc] at hc hf hz); (try simp only [World.size_setCell] at hc hf hz); (try simp only [World.size_drew] at hc hf hz)) | (go_at_call 37; refine (Union_n _ _ _ _ _ _ _ _ _ _ _ (h.ext (by (repeat' (first | (with_reducible assumption) | (with_reducible exact Ext.refl _) | (with_reducible refine Ext.alloc ?_ _) | (with_reducible refine Ext.drew ?_) | (with_reducible refine Ext.drewN ?_ _) | (with_reducible refine Ext.setCell ?_ ?_ _) | (with_reducible refine Ext.trans ?_ (by assumption)) | go_size)))) (hv.aa.ext (by (repeat' (first | (with_reducible assumption) | (with_reducible exact Ext.refl _) | (with_reducible refine Ext.alloc ?_ _) | (with_reducible refine Ext.drew ?_) | (with_reducible refine Ext.drewN ?_ _) | (with_reducible refine Ext.setCell ?_ ?_ _) | (with_reducible refine Ext.trans ?_ (by assumption)) | go_size)))) rfl).mono ?_; rintro e w2 ⟨rfl, hb2⟩; have hc2 := hb2.cellE; have hf2 := hb2.frozenE; have hz2 := hb2.size; have ha2 := alloc_keeps w2; (try simp only [World.size_alloc] at hc2 hf2 hz2); (try simp only [World.size_setCell] at hc2 hf2 hz2); (try simp only [World.size_drew] at hc2 hf2 hz2)))
    ((try simp only [Exit.inBlock, Exit.then]); refine bodyPost_ret (v := .tuple #[.agg #[.slice none 0 0], .int .i64 50]) (by simp [results, Tryd.results29, go_sem, *]) rfl ?_)
    exact ⟨rfl, by (repeat' (first | (with_reducible assumption) | (with_reducible exact Ext.refl _) | (with_reducible refine Ext.alloc ?_ _) | (with_reducible refine Ext.drew ?_) | (with_reducible refine Ext.drewN ?_ _) | (with_reducible refine Ext.setCell ?_ ?_ _) | (with_reducible refine Ext.trans ?_ (by assumption)) | go_size))⟩
theorem With_c {w0 : World} {a : Option Addr} {l : List Int} {n : Nat} (c : Nat) {v : Bool} (x y : Int) (w : World) (h : AA w0 a l n v) (hE : Ext w0 w) :
    Calls Tryd.prog 29 #[.agg #[.slice a n c], .agg #[.int .i64 x, .int .i64 y]] w (RetAny w (v && Globe.vcB x y) (Globe.putL l x.toNat y.toNat) 50) := by
  replace h := h.ext hE
  cases hq : (v && Globe.vcB x y)
  · exact (With_n a l n c v x y w h hq).mono fun _ _ h => RetAny.no h
  · obtain ⟨rfl, hc⟩ := Bool.and_eq_true_iff.1 hq
    obtain ⟨b1, o1, rfl, rfl, r1⟩ := h.va
    obtain ⟨h0, h1, h2, h3⟩ := Globe.vcB_t.1 hc
    have := With_v c x.toNat y.toNat w r1 (Ext.refl _) (by omega) (by omega)
    rw [Int.toNat_of_nonneg h0, Int.toNat_of_nonneg h2] at this
    exact this.mono fun _ _ h => h.any

end Go.Proofs.YtnfknekbbdfdfaaDoor
