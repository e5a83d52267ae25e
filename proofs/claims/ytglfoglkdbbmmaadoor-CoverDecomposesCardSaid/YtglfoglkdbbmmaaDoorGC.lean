/- Contracts of package globe: Contains. -/
import Derived.Test.YtglfoglkdbbmmaaDoorGB
import Derived.Test.YtglfoglkdbbmmaaDoorML
import Derived.Test.YtglfoglkdbbmmaaDoorWA
namespace Go.Proofs.YtglfoglkdbbmmaaDoor
open Go.RowKit

theorem arrayAt_c (B k : Nat) (w : World) : (Instr.arrayAt 80 (.slice (some ⟨B, 0, none⟩) 24 k)).run Tryd.prog w = .ok (.pointer (some ⟨B, 0, none⟩)) w := by kernel_rfl
theorem eql24 {L : List Int} (hL : L.length = 24) (w : World) : (Op.equalIn 10000 80 (.agg (intVals L).toArray) (.agg #[.int .i64 0, .int .i64 0, .int .i64 0, .int .i64 0, .int .i64 0, .int .i64 0, .int .i64 0, .int .i64 0, .int .i64 0, .int .i64 0, .int .i64 0, .int .i64 0, .int .i64 0, .int .i64 0, .int .i64 0, .int .i64 0, .int .i64 0, .int .i64 0, .int .i64 0, .int .i64 0, .int .i64 0, .int .i64 0, .int .i64 0, .int .i64 0])).run Tryd.prog w = .ok (decide (L = Globe.zeroL)) w :=
  equalIn_rows (P := Tryd.prog) 80 3 Tryd.underlying80 (by kernel_rfl) (by kernel_rfl) (by kernel_rfl) Tryd.underlying3 L hL w
theorem size24 {L : List Int} (hL : L.length = 24) : (Tryd.prog.info? 80).map (·.size) = some (intVals L).length := by rw [show (intVals L).length = 24 by simp [intVals, hL]]; kernel_rfl

set_option maxHeartbeats 1000000 in
theorem Contains_v {w1 w2 : World} {b1 o1 b2 o2 : Nat} (c1 c2 : Nat) {l1 l2 : List Int} (w : World) (h1 : VA w1 b1 o1 l1) (e1 : Ext w1 w) (h2 : VA w2 b2 o2 l2) (e2 : Ext w2 w) :
    Calls Tryd.prog 32 #[.agg #[.slice (some ⟨b1, o1, none⟩) 24 c1], .agg #[.slice (some ⟨b2, o2, none⟩) 24 c2]] w fun e w' => e = .returned (.bool (Globe.containsB l1 l2)) ∧ Ext w w' := by
  replace h1 := h1.ext e1
  replace h2 := h2.ext e2
  clear e1 e2
  have hr : Globe.containsB l1 l2 = decide (Globe.lessL l2 l1 = Globe.zeroL) := by rw [Globe.containsB, h1.2, h2.2]; rfl
  have Hr := Lib.hid hr; clear hr
  have ha1 := arrayAt_c
  have hL : (Globe.lessL l2 l1).length = 24 := Globe.rowsF_len _
  have heq := @eql24 (Globe.lessL l2 l1) hL
  have HL := Lib.hid hL; clear hL
  go_enter Tryd.func32, Tryd.ntmps32
  go_wp2_with (first | (go_at_call 33; refine (Less_v _ _ _ h2 (by (repeat' (first | (with_reducible assumption) | (with_reducible exact Ext.refl _) | (with_reducible refine Ext.alloc ?_ _) | (with_reducible refine Ext.drew ?_) | (with_reducible refine Ext.drewN ?_ _) | (with_reducible refine Ext.setCell ?_ ?_ _) | (with_reducible refine Ext.trans ?_ (by assumption)) | go_size))) h1 (by (repeat' (first | (with_reducible assumption) | (with_reducible exact Ext.refl _) | (with_reducible refine Ext.alloc ?_ _) | (with_reducible refine Ext.drew ?_) | (with_reducible refine Ext.drewN ?_ _) | (with_reducible refine Ext.setCell ?_ ?_ _) | (with_reducible refine Ext.trans ?_ (by assumption)) | go_size)))).mono ?_; rintro e w1 ⟨B, k, rfl, hB, hr, hv, hb⟩; have hc := hb.cellE; have hf := hb.frozenE; have hz := hb.size; have ha := alloc_keeps w1; (try simp only [World.size_alloc] at hc hf hz); (try simp only [World.size_setCell] at hc hf hz); (try simp only [World.size_drew] at hc hf hz); have hrg := (hr.ext (Ext.alloc (Ext.refl _) (.cells #[.slice (some ⟨B, 0, none⟩) 24 k] 25))).range; clear hr hv) | (refine wpList_load_g (op := ⟨some 19, Op.load 80 (Operand.tmp 18), _, _, _, _⟩) (by kernel_rfl) 80 (Operand.tmp 18) rfl _ 0 rfl _ (.array 24 3) hrg Tryd.underlying80 rfl (size24 HL.out) ?_))
  go_ret
  exact ⟨ret_bool Hr.out.symm, by (repeat' (first | (with_reducible assumption) | (with_reducible exact Ext.refl _) | (with_reducible refine Ext.alloc ?_ _) | (with_reducible refine Ext.drew ?_) | (with_reducible refine Ext.drewN ?_ _) | (with_reducible refine Ext.setCell ?_ ?_ _) | (with_reducible refine Ext.trans ?_ (by assumption)) | go_size))⟩
set_option maxHeartbeats 1000000 in
theorem Contains_n (a1 : Option Addr) (l1 : List Int) (n1 c1 : Nat) (v1 : Bool) (a2 : Option Addr) (l2 : List Int) (n2 c2 : Nat) (v2 : Bool) (w : World) (h1 : AA w a1 l1 n1 v1) (h2 : AA w a2 l2 n2 v2) (hv : (v1 && v2) = false) :
    Calls Tryd.prog 32 #[.agg #[.slice a1 n1 c1], .agg #[.slice a2 n2 c2]] w fun e w' => e = .returned (.bool false) ∧ Ext w w' := by
  have hv' : (v2 && v1) = false := by rw [Bool.and_comm]; exact hv
  clear hv
  go_enter Tryd.func32, Tryd.ntmps32
  go_wp2_with (go_at_call 33; refine (Less_n _ l2 _ _ v2 _ l1 _ _ v1 _ (h2.ext (by (repeat' (first | (with_reducible assumption) | (with_reducible exact Ext.refl _) | (with_reducible refine Ext.alloc ?_ _) | (with_reducible refine Ext.drew ?_) | (with_reducible refine Ext.drewN ?_ _) | (with_reducible refine Ext.setCell ?_ ?_ _) | (with_reducible refine Ext.trans ?_ (by assumption)) | go_size)))) (h1.ext (by (repeat' (first | (with_reducible assumption) | (with_reducible exact Ext.refl _) | (with_reducible refine Ext.alloc ?_ _) | (with_reducible refine Ext.drew ?_) | (with_reducible refine Ext.drewN ?_ _) | (with_reducible refine Ext.setCell ?_ ?_ _) | (with_reducible refine Ext.trans ?_ (by assumption)) | go_size)))) hv').mono ?_; rintro e w1 ⟨rfl, hb⟩; have hc := hb.cellE; have hf := hb.frozenE; have hz := hb.size; have ha := alloc_keeps w1; (try simp only [World.size_alloc] at hc hf hz); (try simp only [World.size_setCell] at hc hf hz); (try simp only [World.size_drew] at hc hf hz))
  go_ret
  exact ⟨rfl, by (repeat' (first | (with_reducible assumption) | (with_reducible exact Ext.refl _) | (with_reducible refine Ext.alloc ?_ _) | (with_reducible refine Ext.drew ?_) | (with_reducible refine Ext.drewN ?_ _) | (with_reducible refine Ext.setCell ?_ ?_ _) | (with_reducible refine Ext.trans ?_ (by assumption)) | go_size))⟩
theorem Contains_c {w1 w2 : World} {a1 : Option Addr} {l1 : List Int} {n1 : Nat} (c1 : Nat) {v1 : Bool} {a2 : Option Addr} {l2 : List Int} {n2 : Nat} (c2 : Nat) {v2 : Bool} (w : World) (h1 : AA w1 a1 l1 n1 v1) (e1 : Ext w1 w) (h2 : AA w2 a2 l2 n2 v2) (e2 : Ext w2 w) :
    Calls Tryd.prog 32 #[.agg #[.slice a1 n1 c1], .agg #[.slice a2 n2 c2]] w fun e w' => e = .returned (.bool (Globe.containsB l1 l2)) ∧ Ext w w' := by
  replace h1 := h1.ext e1
  replace h2 := h2.ext e2
  cases hq : (v1 && v2)
  · have hr : Globe.containsB l1 l2 = false := by rw [Globe.containsB, h1.2.2.2, h2.2.2.2, hq]; rfl
    rw [hr]
    exact Contains_n a1 l1 n1 c1 v1 a2 l2 n2 c2 v2 w h1 h2 hq
  · obtain ⟨rfl, rfl⟩ := Bool.and_eq_true_iff.1 hq
    obtain ⟨b1, o1, rfl, rfl, r1⟩ := h1.va
    obtain ⟨b2, o2, rfl, rfl, r2⟩ := h2.va
    exact Contains_v c1 c2 w r1 (Ext.refl _) r2 (Ext.refl _)

end Go.Proofs.YtglfoglkdbbmmaaDoor
