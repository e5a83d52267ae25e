/- Part 2 of what the proof of SwathCells stands on. -/
import Derived.Test.YtdjjkhefdalokaaDoorV1SwathCells
import Derived.Shelf.SlGeneric
import Derived.Shelf.SlSortCmp.WholeK
import Derived.Ground.SlsfProg
import Derived.Test.YtdjjkhefdalokaaDoorProg
import Derived.Shelf.SlSortCmp.NoneTotal
/- Contracts: the comparison of cells. -/
namespace Go.Proofs.YtdjjkhefdalokaaDoor
open Go.RowKit

def cmpI (a b : Int) : Int := if a < b then -1 else if a > b then 1 else 0
theorem cmpI_neg {a b : Int} : cmpI a b < 0 ↔ a < b := by unfold cmpI; split <;> (try split) <;> omega
theorem cmpI_zero {a b : Int} : cmpI a b = 0 ↔ a = b := by unfold cmpI; split <;> (try split) <;> omega
def or2 (x y : Int) : Int := if x = 0 then y else x
/-- How cells are ordered. -/
def ordC (p q : Nat × Nat) : Int := or2 (cmpI p.2 q.2) (cmpI p.1 q.1)
theorem ordC_neg {p q : Nat × Nat} : ordC p q < 0 ↔ p.2 < q.2 ∨ p.2 = q.2 ∧ p.1 < q.1 := by
  unfold ordC or2
  split
  · rename_i h; rw [cmpI_zero] at h; rw [cmpI_neg]; omega
  · rename_i h; rw [cmpI_zero] at h; rw [cmpI_neg]; omega
set_option maxRecDepth 1000000 in
set_option maxHeartbeats 4000000 in
theorem isNaN_g (x : Int) (w : World) : Calls Tryd.prog 73 #[.int .i64 x] w fun e w' => e = .returned (.bool false) ∧ Gro w w' := by
  have hG : Gro w w := Gro.refl w
  refine calls_cw 6 [(0, .int .i64 (x : Int))] Tryd.func73 rfl Tryd.ntmps73 (by kernel_rfl) (by kernel_rfl) (fun L => ?_)
  have hE : Ext w w := Ext.refl w
  refine cw_seq ?_
  refine cw_plain ?_
  refine pl_take (.bool false) rfl (by kernel_rfl) (by kernel_rfl) (by kernel_rfl) (by kernel_rfl) ?_
  refine pl_nil ?_
  refine qw_then ?_
  refine cw_seq ?_
  refine cw_plain ?_
  refine pl_take (.int .i64 (x : Int)) rfl (by kernel_rfl) (by kernel_rfl) (by kernel_rfl) (by kernel_rfl) ?_
  refine pl_take (.int .i64 (x : Int)) rfl (by kernel_rfl) (by kernel_rfl) (by kernel_rfl) (by kernel_rfl) ?_
  refine pl_take (.bool false) rfl (by kernel_rfl) (by kernel_rfl) (by kernel_rfl) (ev_bool (show _ = Result.ok (Next.value (Value.bool ((x : Int) != x))) _ from by kernel_rfl) (bne_self_eq_false _)) ?_
  refine pl_take (.bool false) rfl (by kernel_rfl) (by kernel_rfl) (by kernel_rfl) (by kernel_rfl) ?_
  refine pl_nil ?_
  refine qw_then ?_
  refine cw_ret ?_
  refine qw_ret [.bool false] rfl ⟨(by kernel_rfl), trivial⟩ ?_
  exact ⟨rfl, hG⟩
set_option maxRecDepth 1000000 in
set_option maxHeartbeats 4000000 in
theorem Compare_g (a b : Int) (w : World) : Calls Tryd.prog 58 #[.int .i64 a, .int .i64 b] w fun e w' => e = .returned (.int .i64 (cmpI a b)) ∧ Gro w w' := by
  have hG : Gro w w := Gro.refl w
  refine calls_cw 20 [(1, .int .i64 (b : Int)), (0, .int .i64 (a : Int))] Tryd.func58 rfl Tryd.ntmps58 (by kernel_rfl) (by kernel_rfl) (fun L => ?_)
  have hE : Ext w w := Ext.refl w
  refine cw_seq ?_
  refine cw_plain ?_
  refine pl_take (.int .i64 0) rfl (by kernel_rfl) (by kernel_rfl) (by kernel_rfl) (by kernel_rfl) ?_
  refine pl_nil ?_
  refine qw_then ?_
  refine cw_seq ?_
  refine cw_plain ?_
  refine pl_take (.int .i64 (a : Int)) rfl (by kernel_rfl) (by kernel_rfl) (by kernel_rfl) (by kernel_rfl) ?_
  refine pl_step rfl (by kernel_rfl) (by kernel_rfl) (by kernel_rfl) (sn_call (f := 73) (args := #[.int .i64 (a : Int)]) (by kernel_rfl) ((isNaN_g a _).mono ?_))
  rintro e w1 ⟨rfl, hb⟩
  have hgx := hb; replace hb := hgx.ext; replace hG := hG.trans hgx; clear hgx
  replace hE := hE.trans hb
  have hs2 := hb.size
  clear hb
  refine ⟨_, rfl, ?_⟩
  refine pl_take (.bool false) rfl (by kernel_rfl) (by kernel_rfl) (by kernel_rfl) (by kernel_rfl) ?_
  refine pl_nil ?_
  refine qw_then ?_
  refine cw_seq ?_
  refine cw_plain ?_
  refine pl_take (.int .i64 (b : Int)) rfl (by kernel_rfl) (by kernel_rfl) (by kernel_rfl) (by kernel_rfl) ?_
  refine pl_step rfl (by kernel_rfl) (by kernel_rfl) (by kernel_rfl) (sn_call (f := 73) (args := #[.int .i64 (b : Int)]) (by kernel_rfl) ((isNaN_g b _).mono ?_))
  rintro e w3 ⟨rfl, hb⟩
  have hgx := hb; replace hb := hgx.ext; replace hG := hG.trans hgx; clear hgx
  replace hE := hE.trans hb
  have hs4 := hb.size
  clear hb
  refine ⟨_, rfl, ?_⟩
  refine pl_take (.bool false) rfl (by kernel_rfl) (by kernel_rfl) (by kernel_rfl) (by kernel_rfl) ?_
  refine pl_nil ?_
  refine qw_then ?_
  refine cw_seq ?_
  refine cw_seq ?_
  refine cw_plain ?_
  refine pl_take (.bool false) rfl (by kernel_rfl) (by kernel_rfl) (by kernel_rfl) (by kernel_rfl) ?_
  refine pl_nil ?_
  refine qw_then ?_
  refine cw_f (by kernel_rfl) ?_
  refine cw_skip ?_
  refine qw_then ?_
  refine cw_seq ?_
  refine cw_seq ?_
  refine cw_plain ?_
  refine pl_take (.bool false) rfl (by kernel_rfl) (by kernel_rfl) (by kernel_rfl) (by kernel_rfl) ?_
  refine pl_nil ?_
  refine qw_then ?_
  refine cw_f (by kernel_rfl) ?_
  refine cw_skip ?_
  refine qw_then ?_
  refine cw_seq ?_
  refine cw_seq ?_
  refine cw_plain ?_
  refine pl_take (.int .i64 (a : Int)) rfl (by kernel_rfl) (by kernel_rfl) (by kernel_rfl) (by kernel_rfl) ?_
  refine pl_take (.int .i64 (b : Int)) rfl (by kernel_rfl) (by kernel_rfl) (by kernel_rfl) (by kernel_rfl) ?_
  by_cases hc5 : (a : Int) < (b : Int)
  ·
    refine pl_take (.bool true) rfl (by kernel_rfl) (by kernel_rfl) (by kernel_rfl) (ev_dec (show _ = Result.ok (Next.value (Value.bool (decide ((a : Int) < (b : Int))))) _ from by kernel_rfl) (hc5)) ?_
    refine pl_nil ?_
    refine qw_then ?_
    refine cw_t (by kernel_rfl) ?_
    refine cw_seq ?_
    refine cw_plain ?_
    refine pl_take (.int .i64 (-1 : Int)) rfl (by kernel_rfl) (by kernel_rfl) (by kernel_rfl) (by kernel_rfl) ?_
    refine pl_nil ?_
    refine qw_then ?_
    refine cw_ret ?_
    refine qw_then_ret ?_
    refine qw_ret [.int .i64 (-1 : Int)] rfl ⟨(by kernel_rfl), trivial⟩ ?_
    exact ⟨congrArg (fun z => Ending.returned (Value.int .i64 z)) (show (-1 : Int) = cmpI a b by unfold cmpI; simp [hc5]), hG⟩
  ·
    refine pl_take (.bool false) rfl (by kernel_rfl) (by kernel_rfl) (by kernel_rfl) (ev_ndec (show _ = Result.ok (Next.value (Value.bool (decide ((a : Int) < (b : Int))))) _ from by kernel_rfl) (hc5)) ?_
    refine pl_nil ?_
    refine qw_then ?_
    refine cw_f (by kernel_rfl) ?_
    refine cw_skip ?_
    refine qw_then ?_
    refine cw_seq ?_
    refine cw_seq ?_
    refine cw_plain ?_
    refine pl_take (.int .i64 (a : Int)) rfl (by kernel_rfl) (by kernel_rfl) (by kernel_rfl) (by kernel_rfl) ?_
    refine pl_take (.int .i64 (b : Int)) rfl (by kernel_rfl) (by kernel_rfl) (by kernel_rfl) (by kernel_rfl) ?_
    by_cases hc6 : (a : Int) > (b : Int)
    ·
      refine pl_take (.bool true) rfl (by kernel_rfl) (by kernel_rfl) (by kernel_rfl) (ev_dec (show _ = Result.ok (Next.value (Value.bool (decide ((a : Int) > (b : Int))))) _ from by kernel_rfl) (hc6)) ?_
      refine pl_nil ?_
      refine qw_then ?_
      refine cw_clean [19] (ws' := [(19, .bool true)]) (by kernel_rfl) (fun L => ?_)
      refine cw_t (by kernel_rfl) ?_
      refine cw_seq ?_
      refine cw_plain ?_
      refine pl_take (.int .i64 1) rfl (by kernel_rfl) (by kernel_rfl) (by kernel_rfl) (by kernel_rfl) ?_
      refine pl_nil ?_
      refine qw_then ?_
      refine cw_ret ?_
      refine qw_then_ret ?_
      refine qw_ret [.int .i64 1] rfl ⟨(by kernel_rfl), trivial⟩ ?_
      exact ⟨congrArg (fun z => Ending.returned (Value.int .i64 z)) (show (1 : Int) = cmpI a b by unfold cmpI; simp [hc5, hc6]), hG⟩
    ·
      refine pl_take (.bool false) rfl (by kernel_rfl) (by kernel_rfl) (by kernel_rfl) (ev_ndec (show _ = Result.ok (Next.value (Value.bool (decide ((a : Int) > (b : Int))))) _ from by kernel_rfl) (hc6)) ?_
      refine pl_nil ?_
      refine qw_then ?_
      refine cw_clean [19] (ws' := [(19, .bool false)]) (by kernel_rfl) (fun L => ?_)
      refine cw_f (by kernel_rfl) ?_
      refine cw_skip ?_
      refine qw_then ?_
      refine cw_seq ?_
      refine cw_plain ?_
      refine pl_take (.int .i64 0) rfl (by kernel_rfl) (by kernel_rfl) (by kernel_rfl) (by kernel_rfl) ?_
      refine pl_nil ?_
      refine qw_then ?_
      refine cw_ret ?_
      refine qw_ret [.int .i64 0] rfl ⟨(by kernel_rfl), trivial⟩ ?_
      exact ⟨congrArg (fun z => Ending.returned (Value.int .i64 z)) (show (0 : Int) = cmpI a b by unfold cmpI; simp [hc5, hc6]), hG⟩
theorem Or2_g {b o c : Nat} {x y : Int} (w : World) (h0 : w.cell? ⟨b, o, none⟩ = some (.int .i64 x)) (h1 : w.cell? ⟨b, o + 1, none⟩ = some (.int .i64 y)) :
    Calls Tryd.prog 57 #[.slice (some ⟨b, o, none⟩) 2 c] w fun e w' => e = .returned (.int .i64 (or2 x y)) ∧ Gro w w' := by
  by_cases hx : x = 0
  · by_cases hy : y = 0
    · go_enter Tryd.func57, Tryd.ntmps57
      go_wp2_with fail
      refine wp_loop_rounds 3 ?_
      iterate 3 (rw [rounds_succ]; go_wp2_with fail)
      go_ret
      exact ⟨by simp [or2, hx, hy], Gro.refl _⟩
    · go_enter Tryd.func57, Tryd.ntmps57
      go_wp2_with fail
      refine wp_loop_rounds 3 ?_
      iterate 2 (rw [rounds_succ]; go_wp2_with fail)
      go_ret
      exact ⟨by simp [or2, hx], Gro.refl _⟩
  · go_enter Tryd.func57, Tryd.ntmps57
    go_wp2_with fail
    refine wp_loop_rounds 3 ?_
    rw [rounds_succ]; go_wp2_with fail
    go_ret
    exact ⟨by simp [or2, hx], Gro.refl _⟩
set_option maxRecDepth 1000000 in
set_option maxHeartbeats 4000000 in
theorem order_g (x y : Nat × Nat) (w : World) : Calls Tryd.prog 56 #[.agg #[.int .i64 ((x.1 : Nat) : Int), .int .i64 ((x.2 : Nat) : Int)], .agg #[.int .i64 ((y.1 : Nat) : Int), .int .i64 ((y.2 : Nat) : Int)]] w fun e w' => e = .returned (.int .i64 (ordC x y)) ∧ Gro w w' := by
  have hG : Gro w w := Gro.refl w
  refine calls_cw 17 [(1, .agg #[.int .i64 (((y.1 : Nat) : Int) : Int), .int .i64 (((y.2 : Nat) : Int) : Int)]), (0, .agg #[.int .i64 (((x.1 : Nat) : Int) : Int), .int .i64 (((x.2 : Nat) : Int) : Int)])] Tryd.func56 rfl Tryd.ntmps56 (by kernel_rfl) (by kernel_rfl) (fun L => ?_)
  have hE : Ext w w := Ext.refl w
  refine cw_seq ?_
  refine cw_plain ?_
  refine pl_step rfl (by kernel_rfl) (by kernel_rfl) (by kernel_rfl) (sn_newG (us := #[.int .i64 (((x.1 : Nat) : Int) : Int), .int .i64 (((x.2 : Nat) : Int) : Int)]) (t := 33) (by kernel_rfl) ?_)
  intro O1 X2 hO hOs hb hbx hgx
  replace hG := hG.trans hgx; clear hgx
  have hzO1 := hO; have hyO1 := hOs; clear hO hOs
  have bO1_0 : BoxAt X2 O1 0 (.int .i64 (((x.1 : Nat) : Int) : Int)) := hbx 0 _ rfl
  have bO1_1 : BoxAt X2 O1 1 (.int .i64 (((x.2 : Nat) : Int) : Int)) := hbx 1 _ rfl
  clear hbx
  replace hE := hE.trans hb
  have hs3 := hb.size
  clear hb
  have lt4 := bO1_0.lt
  refine pl_step rfl (by kernel_rfl) (by kernel_rfl) (by kernel_rfl) (sn_newG (us := #[.int .i64 (((y.1 : Nat) : Int) : Int), .int .i64 (((y.2 : Nat) : Int) : Int)]) (t := 33) (by kernel_rfl) ?_)
  intro O5 X6 hO hOs hb hbx hgx
  replace hG := hG.trans hgx; clear hgx
  have hzO5 := hO; have hyO5 := hOs; clear hO hOs
  have bO5_0 : BoxAt X6 O5 0 (.int .i64 (((y.1 : Nat) : Int) : Int)) := hbx 0 _ rfl
  have bO5_1 : BoxAt X6 O5 1 (.int .i64 (((y.2 : Nat) : Int) : Int)) := hbx 1 _ rfl
  clear hbx
  replace hE := hE.trans hb
  replace bO1_0 := BoxAt.ext hb bO1_0
  replace bO1_1 := BoxAt.ext hb bO1_1
  have hs7 := hb.size
  clear hb
  have lt8 := bO5_0.lt
  refine pl_take (.int .i64 0) rfl (by kernel_rfl) (by kernel_rfl) (by kernel_rfl) (by kernel_rfl) ?_
  refine pl_nil ?_
  refine qw_then ?_
  refine cw_seq ?_
  refine cw_drawG [(some 5, [2], []), (some 6, [5], [0]), (some 7, [3], []), (some 8, [7], [2]), (some 9, [6, 8], [1, 3]), (some 10, [2], []), (some 11, [10], [5]), (some 12, [3], []), (some 13, [12], [7]), (some 14, [11, 13], [6, 8, 4]), (some 15, [9, 14], [4, 9]), (some 16, [15], [10, 9]), (some 4, [16], [11, 11, 0, 1, 2, 3, 4, 5, 6, 7, 8, 9, 10, 11])] (fun w' => w'.cell? ⟨O1, 1, none⟩ = some (.int .i64 (((x.2 : Nat) : Int) : Int)) ∧ w'.cell? ⟨O5, 1, none⟩ = some (.int .i64 (((y.2 : Nat) : Int) : Int)) ∧ w'.cell? ⟨O1, 0, none⟩ = some (.int .i64 (((x.1 : Nat) : Int) : Int)) ∧ w'.cell? ⟨O5, 0, none⟩ = some (.int .i64 (((y.1 : Nat) : Int) : Int))) (by kernel_rfl) (by kernel_rfl) (by kernel_rfl) (by kernel_rfl) ((calm_then calm_body)) (⟨bO1_1.1, bO5_1.1, bO1_0.1, bO5_0.1⟩) (fun ops Q X9 hgx hb hL hR hK => ?_)
  replace hG := hG.trans hgx; clear hgx
  replace hE := hE.trans hb
  replace bO1_0 := BoxAt.ext hb bO1_0
  replace bO1_1 := BoxAt.ext hb bO1_1
  replace bO5_0 := BoxAt.ext hb bO5_0
  replace bO5_1 := BoxAt.ext hb bO5_1
  have hs10 := hb.size
  clear hb
  refine wd_take 0 (.pointer (some ⟨O1, 1, none⟩)) hR rfl (by kernel_rfl) rfl (by kernel_rfl) (fun w _ => by kernel_rfl) (⟨bO1_1.1, bO5_1.1, bO1_0.1, bO5_0.1⟩) ?_
  refine wd_take 1 (.int .i64 (((x.2 : Nat) : Int) : Int)) hR rfl (by kernel_rfl) rfl (by kernel_rfl) (fun w hS => ex_load rfl (by kernel_rfl) (ld3 (hS.1))) (⟨bO1_1.1, bO5_1.1, bO1_0.1, bO5_0.1⟩) ?_
  refine wd_take 2 (.pointer (some ⟨O5, 1, none⟩)) hR rfl (by kernel_rfl) rfl (by kernel_rfl) (fun w _ => by kernel_rfl) (⟨bO1_1.1, bO5_1.1, bO1_0.1, bO5_0.1⟩) ?_
  refine wd_take 3 (.int .i64 (((y.2 : Nat) : Int) : Int)) hR rfl (by kernel_rfl) rfl (by kernel_rfl) (fun w hS => ex_load rfl (by kernel_rfl) (ld3 (hS.2.1))) (⟨bO1_1.1, bO5_1.1, bO1_0.1, bO5_0.1⟩) ?_
  refine wd_take 5 (.pointer (some ⟨O1, 0, none⟩)) hR rfl (by kernel_rfl) rfl (by kernel_rfl) (fun w _ => by kernel_rfl) (⟨bO1_1.1, bO5_1.1, bO1_0.1, bO5_0.1⟩) ?_
  refine wd_take 6 (.int .i64 (((x.1 : Nat) : Int) : Int)) hR rfl (by kernel_rfl) rfl (by kernel_rfl) (fun w hS => ex_load rfl (by kernel_rfl) (ld3 (hS.2.2.1))) (⟨bO1_1.1, bO5_1.1, bO1_0.1, bO5_0.1⟩) ?_
  refine wd_take 7 (.pointer (some ⟨O5, 0, none⟩)) hR rfl (by kernel_rfl) rfl (by kernel_rfl) (fun w _ => by kernel_rfl) (⟨bO1_1.1, bO5_1.1, bO1_0.1, bO5_0.1⟩) ?_
  refine wd_take 8 (.int .i64 (((y.1 : Nat) : Int) : Int)) hR rfl (by kernel_rfl) rfl (by kernel_rfl) (fun w hS => ex_load rfl (by kernel_rfl) (ld3 (hS.2.2.2))) (⟨bO1_1.1, bO5_1.1, bO1_0.1, bO5_0.1⟩) ?_
  refine wd_step 4 hR rfl (by kernel_rfl) (by kernel_rfl) (by kernel_rfl) (sn_call (f := 58) (args := #[.int .i64 (((x.2 : Nat) : Int) : Int), .int .i64 (((y.2 : Nat) : Int) : Int)]) (by kernel_rfl) ((Compare_g (((x.2 : Nat) : Int)) (((y.2 : Nat) : Int)) _).mono ?_))
  rintro e w11 ⟨rfl, hb⟩
  have hgx := hb; replace hb := hgx.ext; replace hG := hG.trans hgx; clear hgx
  replace hE := hE.trans hb
  replace bO1_0 := BoxAt.ext hb bO1_0
  replace bO1_1 := BoxAt.ext hb bO1_1
  replace bO5_0 := BoxAt.ext hb bO5_0
  replace bO5_1 := BoxAt.ext hb bO5_1
  have hs12 := hb.size
  clear hb
  refine ⟨_, rfl, ⟨bO1_1.1, bO5_1.1, bO1_0.1, bO5_0.1⟩, ?_⟩
  refine wd_step 9 hR rfl (by kernel_rfl) (by kernel_rfl) (by kernel_rfl) (sn_call (f := 58) (args := #[.int .i64 (((x.1 : Nat) : Int) : Int), .int .i64 (((y.1 : Nat) : Int) : Int)]) (by kernel_rfl) ((Compare_g (((x.1 : Nat) : Int)) (((y.1 : Nat) : Int)) _).mono ?_))
  rintro e w13 ⟨rfl, hb⟩
  have hgx := hb; replace hb := hgx.ext; replace hG := hG.trans hgx; clear hgx
  replace hE := hE.trans hb
  replace bO1_0 := BoxAt.ext hb bO1_0
  replace bO1_1 := BoxAt.ext hb bO1_1
  replace bO5_0 := BoxAt.ext hb bO5_0
  replace bO5_1 := BoxAt.ext hb bO5_1
  have hs14 := hb.size
  clear hb
  refine ⟨_, rfl, ⟨bO1_1.1, bO5_1.1, bO1_0.1, bO5_0.1⟩, ?_⟩
  refine wd_step 10 hR rfl (by kernel_rfl) (by kernel_rfl) (by kernel_rfl) (sn_newSG (us := #[.int .i64 (cmpI (((x.2 : Nat) : Int)) (((y.2 : Nat) : Int)) : Int), .int .i64 (cmpI (((x.1 : Nat) : Int)) (((y.1 : Nat) : Int)) : Int)]) (t := 3) (k := 2) (c := 2) (by kernel_rfl) ?_)
  intro O15 X16 hO hOs hb hbx hgx
  replace hG := hG.trans hgx; clear hgx
  have hzO15 := hO; have hyO15 := hOs; clear hO hOs
  have bO15_0 : BoxAt X16 O15 0 (.int .i64 (cmpI (((x.2 : Nat) : Int)) (((y.2 : Nat) : Int)) : Int)) := hbx 0 _ rfl
  have bO15_1 : BoxAt X16 O15 1 (.int .i64 (cmpI (((x.1 : Nat) : Int)) (((y.1 : Nat) : Int)) : Int)) := hbx 1 _ rfl
  clear hbx
  replace hE := hE.trans hb
  replace bO1_0 := BoxAt.ext hb bO1_0
  replace bO1_1 := BoxAt.ext hb bO1_1
  replace bO5_0 := BoxAt.ext hb bO5_0
  replace bO5_1 := BoxAt.ext hb bO5_1
  have hs17 := hb.size
  clear hb
  have lt18 := bO15_0.lt
  refine ⟨⟨bO1_1.1, bO5_1.1, bO1_0.1, bO5_0.1⟩, ?_⟩
  refine wd_step 11 hR rfl (by kernel_rfl) (by kernel_rfl) (by kernel_rfl) (sn_call (f := 57) (args := #[.slice (some ⟨O15, 0, none⟩) 2 2]) (by kernel_rfl) ((Or2_g _ (bO15_0.1) (bO15_1.1)).mono ?_))
  rintro e w19 ⟨rfl, hb⟩
  have hgx := hb; replace hb := hgx.ext; replace hG := hG.trans hgx; clear hgx
  replace hE := hE.trans hb
  replace bO1_0 := BoxAt.ext hb bO1_0
  replace bO1_1 := BoxAt.ext hb bO1_1
  replace bO5_0 := BoxAt.ext hb bO5_0
  replace bO5_1 := BoxAt.ext hb bO5_1
  replace bO15_0 := BoxAt.ext hb bO15_0
  replace bO15_1 := BoxAt.ext hb bO15_1
  have hs20 := hb.size
  clear hb
  refine ⟨_, rfl, ⟨bO1_1.1, bO5_1.1, bO1_0.1, bO5_0.1⟩, ?_⟩
  refine wd_take 12 (.int .i64 (or2 (cmpI (((x.2 : Nat) : Int)) (((y.2 : Nat) : Int))) (cmpI (((x.1 : Nat) : Int)) (((y.1 : Nat) : Int))) : Int)) hR rfl (by kernel_rfl) rfl (by kernel_rfl) (fun w _ => by kernel_rfl) (⟨bO1_1.1, bO5_1.1, bO1_0.1, bO5_0.1⟩) ?_
  refine wd_end hL hR hK (by kernel_rfl) ?_
  refine qw_then ?_
  refine cw_clean [4] (ws' := [(4, .int .i64 (or2 (cmpI (((x.2 : Nat) : Int)) (((y.2 : Nat) : Int))) (cmpI (((x.1 : Nat) : Int)) (((y.1 : Nat) : Int))) : Int))]) (by kernel_rfl) (fun L => ?_)
  refine cw_ret ?_
  refine qw_ret [.int .i64 (or2 (cmpI (((x.2 : Nat) : Int)) (((y.2 : Nat) : Int))) (cmpI (((x.1 : Nat) : Int)) (((y.1 : Nat) : Int))) : Int)] rfl ⟨(by kernel_rfl), trivial⟩ ?_
  exact ⟨rfl, hG⟩

end Go.Proofs.YtdjjkhefdalokaaDoor

/- The layings of library functions at this seat, in plain words. -/
namespace Go.Proofs
open Go.Shelf
def Tryd.sortCel_ren : Go.Shelf.Ren := ⟨fun | 6 => 75 | 15 => 83 | 14 => 82 | 28 => 95 | 29 => 96 | 20 => 87 | 21 => 88 | 22 => 89 | 23 => 90 | 24 => 91 | 25 => 92 | 26 => 93 | 27 => 94 | 46 => 97 | 47 => 98 | 48 => 99 | 49 => 100 | 50 => 101 | 57 => 102 | n => n, fun | 22 => 76 | 24 => 33 | 25 => 106 | 3 => 3 | 39 => 100 | 0 => 0 | 53 => 115 | 55 => 117 | 4 => 4 | 46 => 133 | 45 => 132 | 50 => 137 | 5 => 5 | 9 => 9 | 66 => 139 | 70 => 143 | 76 => 145 | 77 => 146 | n => n, fun | n => n⟩
theorem Tryd.sortCel : Go.Proofs.SlLaysF0.n6 Tryd.prog Tryd.sortCel_ren := {
  mixed := by kernel_rfl
  f6 := ⟨Tryd.f75.name, by decide, Tryd.func75.trans (congrArg some (by kernel_rfl))⟩
  f14 := ⟨Tryd.f82.name, by decide, Tryd.func82.trans (congrArg some (by kernel_rfl))⟩
  f15 := Tryd.func83.trans (congrArg some (by kernel_rfl))
  f20 := ⟨Tryd.f87.name, by decide, Tryd.func87.trans (congrArg some (by kernel_rfl))⟩
  f21 := ⟨Tryd.f88.name, by decide, Tryd.func88.trans (congrArg some (by kernel_rfl))⟩
  f22 := ⟨Tryd.f89.name, by decide, Tryd.func89.trans (congrArg some (by kernel_rfl))⟩
  f23 := ⟨Tryd.f90.name, by decide, Tryd.func90.trans (congrArg some (by kernel_rfl))⟩
  f24 := ⟨Tryd.f91.name, by decide, Tryd.func91.trans (congrArg some (by kernel_rfl))⟩
  f25 := ⟨Tryd.f92.name, by decide, Tryd.func92.trans (congrArg some (by kernel_rfl))⟩
  f26 := ⟨Tryd.f93.name, by decide, Tryd.func93.trans (congrArg some (by kernel_rfl))⟩
  f27 := ⟨Tryd.f94.name, by decide, Tryd.func94.trans (congrArg some (by kernel_rfl))⟩
  f28 := Tryd.func95.trans (congrArg some (by kernel_rfl))
  f29 := Tryd.func96.trans (congrArg some (by kernel_rfl))
  f46 := ⟨Tryd.f97.name, by decide, Tryd.func97.trans (congrArg some (by kernel_rfl))⟩
  f47 := Tryd.func98.trans (congrArg some (by kernel_rfl))
  f48 := Tryd.func99.trans (congrArg some (by kernel_rfl))
  f49 := ⟨Tryd.f100.name, by decide, Tryd.func100.trans (congrArg some (by kernel_rfl))⟩
  f50 := ⟨Tryd.f101.name, by decide, Tryd.func101.trans (congrArg some (by kernel_rfl))⟩
  f57 := ⟨Tryd.f102.name, by decide, Tryd.func102.trans (congrArg some (by kernel_rfl))⟩
  t0 := Tryd.underlying0
  a0 := Tryd.isAgg0
  z0 := Tryd.sizeOf0
  v0 := Tryd.zeroValue0
  t3 := Tryd.underlying3
  a3 := Tryd.isAgg3
  z3 := Tryd.sizeOf3
  v3 := Tryd.zeroValue3
  t4 := Tryd.underlying4
  a4 := Tryd.isAgg4
  z4 := Tryd.sizeOf4
  v4 := Tryd.zeroValue4
  t5 := Tryd.underlying5
  a5 := Tryd.isAgg5
  z5 := Tryd.sizeOf5
  v5 := Tryd.zeroValue5
  t9 := Tryd.underlying9
  a9 := Tryd.isAgg9
  z9 := Tryd.sizeOf9
  v9 := Tryd.zeroValue9
  t22 := Tryd.underlying76
  a22 := Tryd.isAgg76
  z22 := Tryd.sizeOf76
  v22 := Tryd.zeroValue76
  t25 := Tryd.underlying106
  a25 := Tryd.isAgg106
  z25 := Tryd.sizeOf106
  v25 := Tryd.zeroValue106
  t39 := Tryd.underlying100
  a39 := Tryd.isAgg100
  z39 := Tryd.sizeOf100
  v39 := Tryd.zeroValue100
  t45 := Tryd.underlying132
  a45 := Tryd.isAgg132
  z45 := Tryd.sizeOf132
  v45 := Tryd.zeroValue132
  t46 := Tryd.underlying133
  a46 := Tryd.isAgg133
  z46 := Tryd.sizeOf133
  v46 := Tryd.zeroValue133
  t50 := Tryd.underlying137
  a50 := Tryd.isAgg137
  z50 := Tryd.sizeOf137
  v50 := Tryd.zeroValue137
  t53 := Tryd.underlying115
  a53 := Tryd.isAgg115
  z53 := Tryd.sizeOf115
  v53 := Tryd.zeroValue115
  t55 := Tryd.underlying117
  a55 := Tryd.isAgg117
  z55 := Tryd.sizeOf117
  v55 := Tryd.zeroValue117
  t66 := Tryd.underlying139
  a66 := Tryd.isAgg139
  z66 := Tryd.sizeOf139
  v66 := Tryd.zeroValue139
  t70 := Tryd.underlying143
  a70 := Tryd.isAgg143
  z70 := Tryd.sizeOf143
  v70 := Tryd.zeroValue143
  t76 := Tryd.underlying145
  a76 := Tryd.isAgg145
  z76 := Tryd.sizeOf145
  v76 := Tryd.zeroValue145
  t77 := Tryd.underlying146
  a77 := Tryd.isAgg146
  z77 := Tryd.sizeOf146
  v77 := Tryd.zeroValue146 }
end Go.Proofs

/- Lists of one's own beside boxes and areas: what an append, a store, a loop's own book-keeping leave of them. -/
namespace Go.Proofs.YtdjjkhefdalokaaDoor
open Go.RowKit

/-- Appending one element; what is not the list's block is as it was. -/
theorem own_app1k {α : Type} {R : Rep α} {P : Program} {t ty e : TypeId} {z : Value} {size bytes : Nat} (E : ElemT P t e z size bytes) {n₀ : Nat} {v : Value} {w : World} {l : List α} (h : OwnL R n₀ e size v w l) (hn : n₀ ≤ w.heap.size) {k : Nat} (hl : l.length = k)
    {O c : Nat} {x : α} {d : List Value} {F : List Nat} (hsz : d.length = size) (hcell : ∀ j u, d[j]? = some u → w.cell? ⟨O, j, none⟩ = some u) (h1 : ∀ u ∈ d, u.oneCell' = true)
    (hR : R.rel w d x F) (hF : ∀ b ∈ F, v.ownBlock ≠ some b) (hb : (k + 1) * bytes ≤ 140737488355328) (hmax : k + 1 ≤ 9223372036854775807) :
    ∃ g cap w', (Builtin.append_ #[t, t] ty #[v, .slice (some ⟨O, 0, none⟩) 1 c]).run P w = .ok (.slice (some ⟨g, 0, none⟩) (k + 1) cap) w' ∧ OwnL R n₀ e size (.slice (some ⟨g, 0, none⟩) (k + 1) cap) w' (l ++ [x]) ∧ Grew n₀ w w' ∧ w.grownBy w' v.ownBlock := by
  subst hl
  obtain ⟨cs, h2, h3, h4, h5⟩ := h
  obtain ⟨i, hi, hz0, hz1, hz2⟩ := info_parts E.info
  obtain ⟨v', w', hrun, hown, hg, hiff, hat⟩ := run_append_own_at (P := P) w n₀ t ty e i z size bytes E.under hi hz0 hz1 hz2 E.zs E.pos v l.length cs.flatten h4 ⟨O, 0, none⟩ 1 c d (by rw [hsz, Nat.one_mul]) (fun j u hj => by
    rw [Addr.add_mid, Nat.zero_add]; exact hcell j u hj) h1 (by unfold maxLen; exact hmax) hb hn
  have hnb : ∀ F : List Nat, (∀ b ∈ F, v.ownBlock ≠ some b) → (∀ b ∈ F, b < w.heap.size) → (∀ b ∈ F, v'.ownBlock ≠ some b) ∧ ∀ b ∈ F, ∀ o u, w.cell? ⟨b, o, none⟩ = some u → w'.cell? ⟨b, o, none⟩ = some u := by
    intro F hF hFl
    refine ⟨fun b hbF hv' => ?_, fun b hbF o u hu => hg.cell hu (fun e => hF b hbF e.symm)⟩
    rcases hat with e1 | e1
    · exact hF b hbF (by rw [← e1]; exact hv')
    · rw [e1] at hv'; cases hv'; have := hFl _ hbF; omega
  have hO : OwnL R n₀ e size v' w' (l ++ [x]) := ⟨cs ++ [d], by simp [h2], by
      intro y hy
      rcases List.mem_append.1 hy with hy | hy
      · exact h3 y hy
      · rw [List.mem_singleton.1 hy]; exact hsz, by rw [List.flatten_append, List.length_append]; simpa using hown, by
      intro j y c hx hc
      rcases Nat.lt_or_ge j l.length with hj | hj
      · rw [List.getElem?_append_left hj] at hx
        rw [List.getElem?_append_left (by rw [h2]; exact hj)] at hc
        obtain ⟨F, q1, q2⟩ := h5 j y c hx hc
        obtain ⟨k1, k2⟩ := hnb F q2 (R.lt q1)
        exact ⟨F, R.keep q1 k2, k1⟩
      · rw [List.getElem?_append_right hj] at hx
        rw [List.getElem?_append_right (by rw [h2]; exact hj), h2] at hc
        match hj' : j - l.length, hx, hc with
        | 0, hx, hc =>
          simp at hx hc; subst hx hc
          obtain ⟨k1, k2⟩ := hnb F hF (R.lt hR)
          exact ⟨F, R.keep hR k2, k1⟩
        | _ + 1, hx, _ => simp at hx⟩
  rcases hown.2 with ⟨q, _⟩ | ⟨g, cap, cur, q, _, _, q3, _⟩
  · have := (hiff.1 q).2; omega
  · subst q
    exact ⟨g, cap, w', hrun, hO, ⟨hg.size, fun U hU hUn => Ext.own' hU h4 hUn hg⟩, hg⟩
theorem own_not {v : Value} {n b : Nat} (h : ∀ b, v.ownBlock = some b → n ≤ b) (hb : b < n) : v.ownBlock ≠ some b := fun e => by have := h b e; omega
theorem OwnL.turn {α : Type} {R : Rep α} {n₀ : Nat} {e : TypeId} {size : Nat} {v : Value} {w X : World} {l : List α} {O : Nat} (h : OwnL R n₀ e size v w l) (ho : Turns O w X) (h1 : v.ownBlock ≠ some O) (h2 : ∀ c x F, R.rel w c x F → ∀ b ∈ F, b ≠ O) : OwnL R n₀ e size v X l := by
  obtain ⟨cs, q1, q2, q3, q4⟩ := h
  refine ⟨cs, q1, q2, ⟨q3.1, ?_⟩, fun j x c hx hc => ?_⟩
  · rcases q3.2 with q | ⟨g, cap, cur, rfl, hb, hcur, rest⟩
    · exact .inl q
    · refine .inr ⟨g, cap, cur, rfl, hb, ?_, rest⟩
      rw [ho.heap' g (fun e => h1 (by rw [← e]; rfl))]; exact hcur
  · obtain ⟨F, k1, k2⟩ := q4 j x c hx hc
    exact ⟨F, R.keep k1 (fun b hb o u hu => ho.cell (fun e => h2 _ _ _ k1 b hb e.symm) hu), k2⟩
theorem RowsAt.grownR {w w' : World} {r : Option Nat} {b : Nat} {l : List Int} (h : RowsAt w b l) (hg : w.grownBy w' r) (hne : r ≠ some b) : RowsAt w' b l :=
  ⟨h.1, fun _i hi => hg.cell (h.cell hi) (fun e => hne e.symm), fun _i hi => (BoxAt.grownR ⟨h.cell hi, h.free hi⟩ hg hne).2⟩
theorem RK.app {n₁ : Nat} {X : Nat → Prop} {A B C : World} (h : RK n₁ X A B) {α : Type} {R : Rep α} {n₀ : Nat} {e : TypeId} {size : Nat} {v : Value} {l : List α} (hg : B.grownBy C v.ownBlock) (ho : OwnL R n₀ e size v B l) (hX : ∀ k, v.ownBlock = some k → X k ∨ A.heap.size ≤ k) : RK n₁ X A C := by
  refine h.wrote (Y := fun k => v.ownBlock = some k) ⟨hg.os, hg.tape, hg.output, hg.size, fun k hk hx => hg.block k hk (fun e => hx e.symm), fun k o hk hc => ?_⟩ hX
  refine (hg.block k (Array.getElem?_eq_some_iff.1 hk).1 fun e => ?_).trans hk
  obtain ⟨cs, q1, q2, q3, q4⟩ := ho
  rcases q3.2 with ⟨rfl, _⟩ | ⟨g, cap, cur, rfl, hb, hcur, rest⟩
  · cases e
  · cases e; rw [hk] at hcur; cases hcur; cases hc
theorem KeepX.step {n₀ : Nat} {X : Nat → Prop} {A B C : World} (h : KeepX n₀ X A B) (e : Ext B C) (hn : n₀ ≤ B.heap.size) : KeepX n₀ X A C := h.trans (KeepX.of_ext e hn)
theorem KeepX.app {n₀ : Nat} {X : Nat → Prop} {A B C : World} (h : KeepX n₀ X A B) {v : Value} (hg : B.grownBy C v.ownBlock) (hb : ∀ b, v.ownBlock = some b → n₀ ≤ b) (hn : n₀ ≤ B.heap.size) : KeepX n₀ X A C :=
  ⟨Nat.le_trans h.size hg.size, fun k hk hx => (hg.block k (Nat.lt_of_lt_of_le hk hn) (fun e => by have := hb k e.symm; omega)).trans (h.block k hk hx)⟩
theorem KeptX.turn {X : Nat → Prop} {A B C : World} (h : KeptX X A B) {O : Nat} (t : Turns O B C) (hO : A.heap.size ≤ O) : KeptX X A C :=
  ⟨by rw [t.size]; exact h.size, fun k o hk ho hx => by
    have hk1 := (Array.getElem?_eq_some_iff.1 hk).1
    rw [t.heap' k (by omega)]; exact h.cells k o hk ho hx⟩
/-! Lists of one's own within a set of blocks: the list's own block, and all that its elements look into, lie in S. -/
def inR {α : Type} (S : Nat → Prop) (R : Rep α) : Rep α where
  rel w c x F := R.rel w c x F ∧ ∀ b ∈ F, S b
  keep := fun h hk => ⟨R.keep h.1 hk, h.2⟩
  lt := fun h => R.lt h.1
structure OwnS {α : Type} (S : Nat → Prop) (R : Rep α) (e : TypeId) (size : Nat) (v : Value) (w : World) (l : List α) : Prop where
  own : OwnL (inR S R) 0 e size v w l
  blk : ∀ b, v.ownBlock = some b → S b
theorem OwnS.nil {α : Type} (S : Nat → Prop) (R : Rep α) (e : TypeId) (size : Nat) (w : World) : OwnS S R e size (.slice none 0 0) w [] := ⟨OwnL.nil _ _ _ _ _, fun b h => by cases h⟩
theorem OwnS.ext {α : Type} {S : Nat → Prop} {R : Rep α} {e : TypeId} {size : Nat} {v : Value} {w w' : World} {l : List α} (h : OwnS S R e size v w l) (hE : Ext w w') : OwnS S R e size v w' l := ⟨h.own.ext hE, h.blk⟩
theorem OwnS.mv {α : Type} {S : Nat → Prop} {R : Rep α} {e : TypeId} {size m : Nat} {v : Value} {w w' : World} {l : List α} (h : OwnS S R e size v w l) (hm : Mv m w w') : OwnS S R e size v w' l := ⟨hm.own h.own, h.blk⟩
theorem OwnS.lt {α : Type} {S : Nat → Prop} {R : Rep α} {e : TypeId} {size : Nat} {v : Value} {w : World} {l : List α} (h : OwnS S R e size v w l) : ∀ b, v.ownBlock = some b → b < w.heap.size := h.own.lt
theorem OwnS.turn {α : Type} {S : Nat → Prop} {R : Rep α} {e : TypeId} {size : Nat} {v : Value} {w X : World} {l : List α} {O : Nat} (h : OwnS S R e size v w l) (ho : Turns O w X) (hO : ¬ S O) : OwnS S R e size v X l :=
  ⟨h.own.turn ho (fun e => hO (h.blk O e)) fun _c _x _F hr b hb e => hO (e ▸ hr.2 b hb), h.blk⟩
theorem OwnS.not {α : Type} {S : Nat → Prop} {R : Rep α} {e : TypeId} {size : Nat} {v : Value} {w : World} {l : List α} {b : Nat} (h : OwnS S R e size v w l) (hb : ¬ S b) : v.ownBlock ≠ some b := fun e => hb (h.blk b e)
theorem OwnL.into {α : Type} {S : Nat → Prop} {R : Rep α} {n₀ : Nat} {e : TypeId} {size : Nat} {v : Value} {w : World} {l : List α} (h : OwnL R n₀ e size v w l) (hS : ∀ c x F, R.rel w c x F → ∀ b ∈ F, S b) : OwnL (inR S R) 0 e size v w l := by
  obtain ⟨cs, h1, h2, h3, h4⟩ := h
  refine ⟨cs, h1, h2, ⟨h3.1, ?_⟩, fun j x c hx hc => by obtain ⟨F, q1, q2⟩ := h4 j x c hx hc; exact ⟨F, ⟨q1, hS _ _ _ q1⟩, q2⟩⟩
  rcases h3.2 with q | ⟨g, cap, cur, q, hb, rest⟩
  · exact .inl q
  · exact .inr ⟨g, cap, cur, q, Nat.zero_le _, rest⟩
theorem OwnS.mono {α : Type} {S T : Nat → Prop} {R : Rep α} {e : TypeId} {size : Nat} {v : Value} {w : World} {l : List α} (h : OwnS S R e size v w l) (hST : ∀ k, k < w.heap.size → S k → T k) : OwnS T R e size v w l := by
  obtain ⟨⟨cs, h1, h2, h3, h4⟩, hb⟩ := h
  exact ⟨⟨cs, h1, h2, h3, fun j x c hx hc => by obtain ⟨F, q1, q2⟩ := h4 j x c hx hc; exact ⟨F, ⟨q1.1, fun b hb => hST b (R.lt q1.1 b hb) (q1.2 b hb)⟩, q2⟩⟩, fun b e => hST b (h3.lt b e).2 (hb b e)⟩
/-- Appending one element. -/
theorem OwnS.app {α : Type} {S : Nat → Prop} {R : Rep α} {P : Program} {t ty e : TypeId} {z : Value} {size bytes : Nat} (E : ElemT P t e z size bytes) {v : Value} {w : World} {l : List α} (h : OwnS S R e size v w l) {k : Nat} (hl : l.length = k)
    {O c : Nat} {x : α} {d : List Value} {F : List Nat} (hsz : d.length = size) (hcell : ∀ j u, d[j]? = some u → w.cell? ⟨O, j, none⟩ = some u) (h1 : ∀ u ∈ d, u.oneCell' = true)
    (hR : R.rel w d x F) (hF : ∀ b ∈ F, v.ownBlock ≠ some b) (hb : (k + 1) * bytes ≤ 140737488355328) (hmax : k + 1 ≤ 9223372036854775807) :
    ∃ g cap w', (Builtin.append_ #[t, t] ty #[v, .slice (some ⟨O, 0, none⟩) 1 c]).run P w = .ok (.slice (some ⟨g, 0, none⟩) (k + 1) cap) w' ∧ OwnS (fun b => S b ∨ b ∈ F ∨ w.heap.size ≤ b) R e size (.slice (some ⟨g, 0, none⟩) (k + 1) cap) w' (l ++ [x]) ∧
      (∀ U, Ext U w → (∀ b, S b → U.heap.size ≤ b) → Ext U w') ∧ w.grownBy w' v.ownBlock ∧ g < w'.heap.size ∧ (S g ∨ w.heap.size ≤ g) := by
  have hS : OwnL (inR (fun b => S b ∨ b ∈ F ∨ w.heap.size ≤ b) R) 0 e size v w l := by
    obtain ⟨cs, h1, h2, h3, h4⟩ := h.own
    exact ⟨cs, h1, h2, h3, fun j x c hx hc => by obtain ⟨F, q1, q2⟩ := h4 j x c hx hc; exact ⟨F, ⟨q1.1, fun b hb => .inl (q1.2 b hb)⟩, q2⟩⟩
  obtain ⟨cs, q1, q2, q3, q4⟩ := hS
  subst hl
  obtain ⟨i, hi, hz0, hz1, hz2⟩ := info_parts E.info
  obtain ⟨v', w', hrun, hown, hg, hiff, hat⟩ := run_append_own_at (P := P) w 0 t ty e i z size bytes E.under hi hz0 hz1 hz2 E.zs E.pos v l.length cs.flatten q3 ⟨O, 0, none⟩ 1 c d (by rw [hsz, Nat.one_mul]) (fun j u hj => by
    rw [Addr.add_mid, Nat.zero_add]; exact hcell j u hj) h1 (by unfold maxLen; exact hmax) hb (Nat.zero_le _)
  have hnb : ∀ F : List Nat, (∀ b ∈ F, v.ownBlock ≠ some b) → (∀ b ∈ F, b < w.heap.size) → (∀ b ∈ F, v'.ownBlock ≠ some b) ∧ ∀ b ∈ F, ∀ o u, w.cell? ⟨b, o, none⟩ = some u → w'.cell? ⟨b, o, none⟩ = some u := by
    intro F hF hFl
    refine ⟨fun b hbF hv' => ?_, fun b hbF o u hu => hg.cell hu (fun e => hF b hbF e.symm)⟩
    rcases hat with e1 | e1
    · exact hF b hbF (by rw [← e1]; exact hv')
    · rw [e1] at hv'; cases hv'; have := hFl _ hbF; omega
  have hO : OwnL (inR (fun b => S b ∨ b ∈ F ∨ w.heap.size ≤ b) R) 0 e size v' w' (l ++ [x]) := ⟨cs ++ [d], by simp [q1], by
      intro y hy
      rcases List.mem_append.1 hy with hy | hy
      · exact q2 y hy
      · rw [List.mem_singleton.1 hy]; exact hsz, by rw [List.flatten_append, List.length_append]; simpa using hown, by
      intro j y c hx hc
      rcases Nat.lt_or_ge j l.length with hj | hj
      · rw [List.getElem?_append_left hj] at hx
        rw [List.getElem?_append_left (by rw [q1]; exact hj)] at hc
        obtain ⟨F', p1, p2⟩ := q4 j y c hx hc
        obtain ⟨k1, k2⟩ := hnb F' p2 (R.lt p1.1)
        exact ⟨F', ⟨R.keep p1.1 k2, p1.2⟩, k1⟩
      · rw [List.getElem?_append_right hj] at hx
        rw [List.getElem?_append_right (by rw [q1]; exact hj), q1] at hc
        match hj' : j - l.length, hx, hc with
        | 0, hx, hc =>
          simp at hx hc; subst hx hc
          obtain ⟨k1, k2⟩ := hnb F hF (R.lt hR)
          exact ⟨F, ⟨R.keep hR k2, fun b hb => .inr (.inl hb)⟩, k1⟩
        | _ + 1, hx, _ => simp at hx⟩
  have hblk : ∀ b, v'.ownBlock = some b → S b ∨ w.heap.size ≤ b := fun b hb => by
    rcases hat with e1 | e1
    · exact .inl (h.blk b (by rw [← e1]; exact hb))
    · rw [e1] at hb; cases hb; exact .inr (Nat.le_refl _)
  have hlt' := hO.lt
  rcases hown.2 with ⟨q, _⟩ | ⟨g, cap, cur, q, _, _, _, _⟩
  · have := (hiff.1 q).2; omega
  · subst q
    exact ⟨g, cap, w', hrun, ⟨hO, fun b hb => (hblk b hb).elim .inl (fun h => .inr (.inr h))⟩, fun U hU hUS => ⟨hg.os.trans hU.os, hg.tape.trans hU.tape, hg.output.trans hU.output, Nat.le_trans hU.size hg.size, fun k hk => (hg.block k (Nat.lt_of_lt_of_le hk hU.size) (fun e => by have := hUS k (h.blk k e.symm); omega)).trans (hU.block k hk)⟩, hg, hlt' g rfl, hblk g rfl⟩
section
variable {w w' : World} {g : Nat}
end
theorem KeepX.box {n₀ : Nat} {X : Nat → Prop} {A B : World} (hk : KeepX n₀ X A B) {b o : Nat} {v : Value} (h : BoxAt A b o v) (hb : b < n₀) (hx : ¬ X b) : BoxAt B b o v :=
  ⟨(hk.cell hb hx).trans h.1, (World.frozen?_of_block (hk.block b hb hx)).trans h.2⟩
theorem OwnS.cap {α : Type} {S : Nat → Prop} {R : Rep α} {e : TypeId} {size : Nat} {a : Option Addr} {n c : Nat} {w : World} {l : List α} (h : OwnS S R e size (.slice a n c) w l) (hl : l.length = n) : n ≤ c := by
  obtain ⟨⟨cs, h1, h2, h3, h4⟩, hb⟩ := h
  rcases h3.2 with ⟨q, q2⟩ | ⟨g, cap, cur, q, _, _, hc, _⟩
  · injection q with r1 r2 r3; omega
  · injection q with r1 r2 r3; omega
end Go.Proofs.YtdjjkhefdalokaaDoor

/- Lists of cells of one's own, and the library's sort of them. -/
namespace Go.Proofs.YtdjjkhefdalokaaDoor
open Go.RowKit
theorem own_cell9 {w : World} {base : Nat} {e : TypeId} {size g n cap : Nat} {xs : List Value} (h : w.ownsRow base e size (.slice (some ⟨g, 0, none⟩) n cap) n xs) {j : Nat} {u : Value} (hj : j < n * size) (hu : xs[j]? = some u) : w.cell? ⟨g, 0 + j, none⟩ = some u := by
  rw [Nat.zero_add, h.cellAt j hj]; exact hu
/-! Lists of cells of one's own; the library's sort of cells. -/
def celE (x : Nat × Nat) : List Value := [.int .i64 ((x.1 : Nat) : Int), .int .i64 ((x.2 : Nat) : Int)]
def CelAt (w : World) (b o : Nat) (x : (Nat × Nat)) : Prop := w.cell? ⟨b, o, none⟩ = some (.int .i64 ((x.1 : Nat) : Int)) ∧ w.cell? ⟨b, o + 1, none⟩ = some (.int .i64 ((x.2 : Nat) : Int))
def CelsAt (w : World) (a : Option Addr) (n : Nat) (l : List (Nat × Nat)) : Prop := l.length = n ∧ (n = 0 ∨ ∃ b, a = some ⟨b, 0, none⟩ ∧ ∀ (i : Nat) x, l[i]? = some x → CelAt w b (i * 2) x)
theorem CelsAt.ext {w w' : World} {a : Option Addr} {n : Nat} {l : List (Nat × Nat)} (h : CelsAt w a n l) (hE : Ext w w') : CelsAt w' a n l :=
  ⟨h.1, h.2.imp id fun ⟨b, ha, hx⟩ => ⟨b, ha, fun i x hi => ⟨hE.cell (hx i x hi).1, hE.cell (hx i x hi).2⟩⟩⟩
def celN (l : List (Nat × Nat)) (i : Nat) : (Nat × Nat) := l[i]?.getD (0, 0)
theorem celN_at {l : List (Nat × Nat)} {i : Nat} (h : i < l.length) : l[i]? = some (celN l i) := by unfold celN; rw [List.getElem?_eq_getElem h]; rfl
theorem CelsAt.parts {w : World} {a : Option Addr} {n : Nat} {l : List (Nat × Nat)} (h : CelsAt w a n l) : ∃ b, (0 < n → a = some ⟨b, 0, none⟩) ∧ ∀ i, i < n → CelAt w b (i * 2) (celN l i) := by
  obtain ⟨h1, h3⟩ := h
  rcases h3 with h3 | ⟨b, ha, hx⟩
  · exact ⟨0, fun h => by omega, fun i hi => by omega⟩
  · exact ⟨b, fun _ => ha, fun i hi => hx i _ (celN_at (by omega))⟩
def celR : Rep (Nat × Nat) where
  rel _ c x F := c = celE x ∧ F = []
  keep := fun h _ => h
  lt := by rintro w c x F ⟨_, rfl⟩ b hb; cases hb
theorem celT : ElemT Tryd.prog 76 33 (.agg #[.int .i64 0, .int .i64 0]) 2 16 := ⟨Tryd.underlying76, by kernel_rfl, rfl, by decide⟩
theorem enc_len (x : Nat × Nat) : (celE x).length = 2 := rfl
theorem enc_one : ∀ x : Nat × Nat, ∀ v ∈ celE x, v.oneCell' = true := fun x v hv => by
  simp [celE] at hv; rcases hv with rfl | rfl <;> rfl
theorem flat_at (rs : List (Nat × Nat)) {i q : Nat} (hi : i < rs.length) (hq : q < 2) : (Go.Sort.flatK celE 2 rs.toArray)[i * 2 + q]! = (celE rs[i])[q]! := by
  rw [Go.Sort.get_flatK _ _ _ _ (by simp; omega), show (i * 2 + q) / 2 = i by omega, show (i * 2 + q) % 2 = q by omega]
  simp [hi]
theorem holds_stps {w : World} {b : Nat} {rs : List (Nat × Nat)} (h : Go.Sort.HoldsK celE 2 w b 0 rs.toArray) : CelsAt w (some ⟨b, 0, none⟩) rs.length rs := by
  refine ⟨rfl, .inr ⟨b, rfl, fun i x hx => ?_⟩⟩
  obtain ⟨hi, rfl⟩ := List.getElem?_eq_some_iff.1 hx
  have k : ∀ q, q < 2 → w.cell? ⟨b, i * 2 + q, none⟩ = some (celE rs[i])[q]! := fun q hq => by
    have := (h (i * 2 + q) (by simp; omega)).1
    rw [Nat.zero_add] at this
    rw [this, id, flat_at rs hi hq]
  exact ⟨k 0 (by omega), k 1 (by omega)⟩
theorem own_holds {n₀ e g n cap : Nat} {w : World} {rs : List (Nat × Nat)} (h : OwnL celR n₀ e 2 (.slice (some ⟨g, 0, none⟩) n cap) w rs) (hl : rs.length = n) : Go.Sort.HoldsK celE 2 w g 0 rs.toArray := by
  subst hl
  obtain ⟨cs, h1, h2, h3, h4⟩ := h
  intro j hj
  have hj' : j < rs.length * 2 := by simpa using hj
  obtain ⟨i, q, rfl, hq⟩ : ∃ i q, j = i * 2 + q ∧ q < 2 := ⟨j / 2, j % 2, by omega, by omega⟩
  have hi : i < rs.length := by omega
  have hc := List.getElem?_eq_getElem (l := cs) (i := i) (by omega)
  obtain ⟨F, ⟨e1, _⟩, _⟩ := h4 i _ _ (List.getElem?_eq_getElem hi) hc
  have f := flatten_get h2 i hc q hq
  have e2 := List.getElem?_eq_getElem (l := celE rs[i]) (i := q) (by rw [enc_len]; exact hq)
  rw [e1, e2] at f
  refine ⟨?_, h3.frozenAt _⟩
  rw [id, flat_at rs hi hq, getElem!_pos _ q (by rw [enc_len]; exact hq)]
  exact own_cell9 h3 (by omega) f
theorem putRow_ext9 {α : Type} [Inhabited α] {U w : World} {g m : Nat} (enc : α → Value) (h : Ext U w) (hg : U.heap.size ≤ g) (d : Array α) : Ext U (Go.Sort.putRow enc (Go.Sort.ahead w m) g 0 d) :=
  ⟨h.os, h.tape, h.output, by rw [Go.Sort.size_putRow]; exact h.size, fun k hk => by
    show (w.heap.modify g _)[k]? = _
    rw [Array.getElem?_modify, if_neg (by omega)]; exact h.block k hk⟩
theorem grow_ext {U w : World} (h : Ext U w) (os : Array Obj) : Ext U (Go.Sort.grow w os) :=
  ⟨h.os, h.tape, h.output, by have := h.size; rw [Go.Sort.size_grow]; omega, fun k hk => by
    show (w.heap ++ os)[k]? = _
    rw [Array.getElem?_append_left (Nat.lt_of_lt_of_le hk h.size)]; exact h.block k hk⟩
theorem ltOf_ord (x y : Nat × Nat) : Go.Proofs.ltOf ordC x y = decide (x.2 < y.2 ∨ x.2 = y.2 ∧ x.1 < y.1) := by
  unfold Go.Proofs.ltOf
  rw [Bool.eq_iff_iff, decide_eq_true_iff, decide_eq_true_iff, ordC_neg]
theorem swo_bef : Go.Sort.SWO (Go.Proofs.ltOf ordC) where
  irrefl x := by rw [ltOf_ord]; simp
  trans x y z h k := by rw [ltOf_ord] at *; simp at *; omega
  ntrans x y z h k := by rw [ltOf_ord] at *; simp at *; omega
theorem raw_order (blk off size : Nat) (w : World) : Go.Proofs.CmpLays Tryd.prog 56 #[] celE 2 ordC blk off size w :=
  fun _ _ _ _ x y => order_g x y _
def SortPost (w : World) (n₀ : Nat) (a : Option Addr) (n : Nat) (rs : List (Nat × Nat)) (e : Ending) (w' : World) : Prop :=
  e = .returned (.tuple #[]) ∧ ∃ rs', rs'.Perm rs ∧ CelsAt w' a n rs' ∧ (∀ U, Ext U w → U.heap.size ≤ n₀ → Ext U w') ∧ w.heap.size ≤ w'.heap.size
theorem SortCF_c {n₀ e g n cap : Nat} {rs : List (Nat × Nat)} (w : World) (h : OwnL celR n₀ e 2 (.slice (some ⟨g, 0, none⟩) n cap) w rs) (hl : rs.length = n) (hn : n ≤ 1000000) :
    Calls Tryd.prog 75 #[.slice (some ⟨g, 0, none⟩) n cap, .func (.func 56) #[] #[]] w (SortPost w g (some ⟨g, 0, none⟩) n rs) := by
  subst hl
  have hcon := Go.Proofs.AnyQ.slices_SortFunc Tryd.sortCel 2 Tryd.isAgg33 Tryd.sizeOf33 celE enc_len enc_one ordC swo_bef 56 #[] g 0 cap rs.toArray w (Go.Proofs.enters_of Tryd.func56 (by kernel_rfl) rfl)
    (raw_order g 0 rs.toArray.size w) (own_holds h rfl) (h.lt g rfl) (by simp; omega)
  refine hcon.mono fun e w' ⟨he, d', m, os, ⟨hs, _, hp⟩, _, hw⟩ => ⟨he, d'.toList, ?_, ?_, ?_, ?_⟩
  · have e1 : d'.extract 0 rs.toArray.size = d' := by rw [← hs]; simp
    have e2 : rs.toArray.extract 0 rs.toArray.size = rs.toArray := by simp
    rw [e1, e2] at hp; simpa using hp
  · have hl' : d'.toList.length = rs.length := by simpa using hs
    have := holds_stps (w := w') (b := g) (rs := d'.toList) (by
      rw [hw]
      refine Go.Sort.holdsK_grow celE 2 _ _ _ _ _ ?_ ?_
      · rw [Go.Sort.putRowK, Go.Sort.size_putRow]; exact h.lt g rfl
      · exact Go.Sort.holdsK_putRowK _ _ _ _ _ rs.toArray _ (Go.Sort.holdsK_ahead _ _ _ _ _ _ _ (own_holds h rfl)) (by simpa using hs))
    rwa [hl'] at this
  · intro U hU hUg
    rw [hw]
    exact grow_ext (putRow_ext9 _ hU hUg _) _
  · rw [hw]; unfold Go.Proofs.sortWorldK; rw [Go.Sort.size_grow, Go.Sort.putRowK, Go.Sort.size_putRow]; exact Nat.le_add_right _ _
/-- The sort of a list of one's own, empty or not. -/
theorem SortC_c {n₀ e : Nat} {a : Option Addr} {n cap : Nat} {rs : List (Nat × Nat)} (w : World) (h : OwnL celR n₀ e 2 (.slice a n cap) w rs) (hl : rs.length = n) (hn : n ≤ 1000) :
    Calls Tryd.prog 75 #[.slice a n cap, .func (.func 56) #[] #[]] w (SortPost w n₀ a n rs) := by
  have hb := h.base
  by_cases h0 : n = 0
  · subst h0
    obtain rfl := List.eq_nil_of_length_eq_zero hl
    refine (Go.Proofs.AnyF.slices_SortFunc_none Tryd.sortCel a cap _ w).mono fun e w' ⟨he, hw⟩ => ⟨he, [], .refl _, ⟨rfl, .inl rfl⟩, fun U hU _ => hw ▸ hU, by rw [hw]; exact Nat.le_refl _⟩
  · have hg : ∃ g, a = some ⟨g, 0, none⟩ := by
      obtain ⟨cs, k1, k2, k3, k4⟩ := h
      rcases k3.2 with ⟨q, _⟩ | ⟨g, cap', cur, q, _⟩
      · injection q with r1 r2 r3; omega
      · injection q with r1; exact ⟨g, r1⟩
    obtain ⟨g, rfl⟩ := hg
    refine (SortCF_c w h hl (by omega)).mono fun e w' ⟨he, rs', h1, h3, h4, h5⟩ => ⟨he, rs', h1, h3, fun U hU hUn => h4 U hU (Nat.le_trans hUn (hb g rfl)), h5⟩

end Go.Proofs.YtdjjkhefdalokaaDoor

/- The keys of a map of cells, gathered and sorted. -/
namespace Go.Proofs.YtdjjkhefdalokaaDoor
open Go.RowKit

theorem OwnL.lower {α : Type} {R : Rep α} {m n₀ : Nat} {e : TypeId} {size : Nat} {v : Value} {w : World} {l : List α} (h : OwnL R n₀ e size v w l) (hm : m ≤ n₀) : OwnL R m e size v w l := by
  obtain ⟨cs, h1, h2, h3, h4⟩ := h
  refine ⟨cs, h1, h2, ⟨h3.1, ?_⟩, h4⟩
  rcases h3.2 with q | ⟨g, cap, cur, q, hb, rest⟩
  · exact .inl q
  · exact .inr ⟨g, cap, cur, q, Nat.le_trans hm hb, rest⟩
set_option maxRecDepth 1000000 in
set_option maxHeartbeats 4000000 in
theorem AppendSeq_c {b Bm : Nat} {lm : List ((Nat × Nat) × Bool)} (w : World) (hc : w.cell? ⟨Bm, 0, none⟩ = some (.map (some b))) (hm : MapS celV booV w b lm) (hn : lm.length ≤ 1000) : Calls Tryd.prog 81 #[.slice none 0 0, .func (.func 76) #[] #[.pointer (some ⟨Bm, 0, none⟩)]] w fun e w' => ∃ (a' : Option Addr) (c' : Nat) (s : List (Nat × Nat)), e = .returned (.slice a' s.length c') ∧ s.Perm (lm.map Prod.fst) ∧ OwnL celR w.heap.size 33 2 (.slice a' s.length c') w' s ∧ Ext w w' := by
  have hbm := World.block_lt_of_cell? _ _ hc
  obtain ⟨mo, hmo⟩ : ∃ mo, w.heap[b]? = some mo := by obtain ⟨es, c, h⟩ := hm; exact ⟨_, h.at_⟩
  have hbl := hm.lt
  refine icalls_cw 13 [(1, .func (.func 76) #[] #[.pointer (some ⟨Bm, 0, none⟩)]), (0, .slice none 0 0)] Tryd.func81 rfl Tryd.ntmps81 (by kernel_rfl) (by kernel_rfl) (fun L mm => ?_)
  have hE : Ext w w := Ext.refl w
  refine icw_seq ?_
  refine icw_plain ?_
  refine ipl_step rfl (by kernel_rfl) (by kernel_rfl) (by kernel_rfl) (sn_new (us := #[.slice none 0 0]) (t := 76) (by kernel_rfl) ?_)
  intro O1 X2 hO hOs hb hbx
  have hzO1 := hO; have hyO1 := hOs; clear hO hOs
  have bO1_0 : BoxAt X2 O1 0 (.slice none 0 0) := hbx 0 _ rfl
  clear hbx
  replace hE := hE.trans hb
  replace hc := hb.cell hc
  have hs3 := hb.size
  clear hb
  have lt4 := bO1_0.lt
  refine ipl_take (.slice none 0 0) rfl (by kernel_rfl) (by kernel_rfl) (by kernel_rfl) (by kernel_rfl) ?_
  refine ipl_nil ?_
  refine iqw_then ?_
  refine icw_seq ?_
  refine icw_seq ?_
  have hc0 := hc
  have hm0 := hm.ext hE
  refine icw_plain ?_
  refine ipl_take (.func (.func 76) #[] #[.pointer (some ⟨Bm, 0, none⟩)]) rfl (by kernel_rfl) (by kernel_rfl) (by kernel_rfl) (by kernel_rfl) ?_
  refine ipl_nil ?_
  refine iqw_then ?_
  refine icw_block ?_
  have hmo5 : X2.heap[b]? = some mo := (hE.block b hbl).trans hmo
  refine icw_rangeL (ps := [7]) (by kernel_rfl) (enters_of Tryd.func76 (by kernel_rfl) rfl) (Keys_seq (mo := mo) (X := (fun k => k = O1 ∨ X2.heap.size ≤ k)) hc0 (fun h => h.elim (Nat.ne_of_lt (Nat.lt_of_lt_of_le hbm (Nat.le_of_eq hzO1))) (fun q => absurd (Nat.lt_of_lt_of_le hbm hs3) (Nat.not_lt_of_le q))) hm0) (Ext.refl _) (fun _ => rfl) (by kernel_rfl) (fun s9 W => ∃ a9 : Option Addr, ∃ c9 : Nat, X2.heap.size ≤ W.heap.size ∧ Ext w W ∧ BoxAt W O1 0 (.slice a9 s9.length c9) ∧ OwnL celR X2.heap.size 33 2 (.slice a9 s9.length c9) W s9 ∧ W.heap[b]? = some mo) (fun s9 A B h hm => by obtain ⟨a9, c9, hsz, hE, b9, own9, hmo9⟩ := h; exact ⟨a9, c9, Nat.le_trans hsz hm.size, hm.ext hE hs3, hm.box b9, hm.own own9, (hm.below b (Nat.lt_of_lt_of_le hbl hs3) (Array.getElem?_eq_some_iff.1 hmo9).1).trans hmo9⟩) (fun s9 A h => by obtain ⟨a9, c9, hsz, hE, b9, own9, hmo9⟩ := h; exact hmo9) ⟨none, 0, Nat.le_refl _, hE, bO1_0, OwnL.nil _ _ _ _ _, hmo5⟩ ?_ ?_
  ·
    clear hc bO1_0 hE
    intro l8 k9 s9 x9 w6 hpre h
    obtain ⟨a9, c9, hs7, hE, b9, own9, hmo9⟩ := h
    refine icw_clean [2, 7] (ws' := [(2, .pointer (some ⟨O1, 0, none⟩)), (7, .agg #[.int .i64 (((x9.1 : Nat) : Int) : Int), .int .i64 (((x9.2 : Nat) : Int) : Int)])]) (by kernel_rfl) (fun L => ?_)
    have hrk10 : RK X2.heap.size (fun k => k = O1 ∨ X2.heap.size ≤ k) w6 w6 := RK.refl _ _ _
    have hX11 : Ext w6 w6 := Ext.refl _
    refine icw_plain ?_
    refine ipl_step rfl (by kernel_rfl) (by kernel_rfl) (by kernel_rfl) (sn_new (us := #[.int .i64 0, .int .i64 0]) (t := 33) (by kernel_rfl) ?_)
    intro O12 X13 hO hOs hb hbx
    have hzO12 := hO; have hyO12 := hOs; clear hO hOs
    have bO12_0 : BoxAt X13 O12 0 (.int .i64 0) := hbx 0 _ rfl
    have bO12_1 : BoxAt X13 O12 1 (.int .i64 0) := hbx 1 _ rfl
    clear hbx
    replace hE := hE.trans hb
    replace hX11 := hX11.trans hb
    replace hmo9 := (hb.block b (Array.getElem?_eq_some_iff.1 hmo9).1).trans hmo9
    replace hrk10 := hrk10.ext hb
    have hs14 := hb.size
    clear hb
    have lt15 := bO12_0.lt
    refine ipl_put rfl (by kernel_rfl) (by kernel_rfl) (sn_set2 (O := O12) (j := 0) (v := .int .i64 (((x9.1 : Nat) : Int) : Int)) (v' := .int .i64 (((x9.2 : Nat) : Int) : Int)) (ex_store (p := .pointer (some ⟨O12, 0, none⟩)) (v := .agg #[.int .i64 (((x9.1 : Nat) : Int) : Int), .int .i64 (((x9.2 : Nat) : Int) : Int)]) rfl (by kernel_rfl) (by kernel_rfl) (st33 bO12_0.1 bO12_0.2 bO12_1.1 bO12_1.2)) bO12_0 bO12_1 ?_)
    intro X16 ho hv0 hv1 hk
    replace hE := ho.ext hE (Nat.le_trans (Nat.le_trans hs3 hs7) (Nat.le_of_eq hzO12))
    replace hX11 := ho.ext hX11 (Nat.le_of_eq hzO12)
    replace hmo9 := (ho.heap' _ (Nat.ne_of_lt (Nat.lt_of_lt_of_le hbl (Nat.le_trans (Nat.le_trans hs3 hs7) (Nat.le_of_eq hzO12))))).trans hmo9
    replace hrk10 := hrk10.turn ho (.inr (Nat.le_of_eq hzO12))
    have hs17 : X13.heap.size ≤ X16.heap.size := Nat.le_of_eq ho.size.symm
    clear ho hk bO12_0 bO12_1
    have bO12_0 := hv0; clear hv0
    have bO12_1 := hv1; clear hv1
    refine ipl_nil ?_
    refine iqw_asgL hrk10 (fun w19 hm18 => ?_)
    have bt20 := (BoxAt.ext hX11 b9)
    have ownt21 := (own9.ext hX11)
    replace hE := hm18.ext hE hs3
    replace bt20 := hm18.box bt20
    replace ownt21 := hm18.own ownt21
    replace hmo9 := (hm18.below b (Nat.lt_of_lt_of_le hbl hs3) (Array.getElem?_eq_some_iff.1 hmo9).1).trans hmo9
    replace bO12_0 := hm18.box bO12_0
    replace bO12_1 := hm18.box bO12_1
    have hs22 := hm18.size
    have hrk23 : RK X2.heap.size (fun k => k = O1 ∨ X2.heap.size ≤ k) w19 w19 := RK.refl _ _ _
    refine icw_block ?_
    refine icw_plain ?_
    refine ipl_take (.slice a9 s9.length c9) rfl (by kernel_rfl) (by kernel_rfl) (by kernel_rfl) (ex_load rfl (by kernel_rfl) (ld76 (bt20.1))) ?_
    refine ipl_take (.agg #[.int .i64 (((x9.1 : Nat) : Int) : Int), .int .i64 (((x9.2 : Nat) : Int) : Int)]) rfl (by kernel_rfl) (by kernel_rfl) (by kernel_rfl) (ex_load rfl (by kernel_rfl) (ld33 (bO12_0.1) (bO12_1.1))) ?_
    refine ipl_step rfl (by kernel_rfl) (by kernel_rfl) (by kernel_rfl) (sn_newS (us := #[.int .i64 (((x9.1 : Nat) : Int) : Int), .int .i64 (((x9.2 : Nat) : Int) : Int)]) (t := 33) (k := 1) (c := 1) (by kernel_rfl) ?_)
    intro O24 X25 hO hOs hb hbx
    have hzO24 := hO; have hyO24 := hOs; clear hO hOs
    have bO24_0 : BoxAt X25 O24 0 (.int .i64 (((x9.1 : Nat) : Int) : Int)) := hbx 0 _ rfl
    have bO24_1 : BoxAt X25 O24 1 (.int .i64 (((x9.2 : Nat) : Int) : Int)) := hbx 1 _ rfl
    clear hbx
    replace hE := hE.trans hb
    replace bt20 := BoxAt.ext hb bt20
    replace ownt21 := ownt21.ext hb
    replace hmo9 := (hb.block b (Array.getElem?_eq_some_iff.1 hmo9).1).trans hmo9
    replace bO12_0 := BoxAt.ext hb bO12_0
    replace bO12_1 := BoxAt.ext hb bO12_1
    replace hrk23 := hrk23.ext hb
    have hs26 := hb.size
    clear hb
    have lt27 := bO24_0.lt
    have hbs38 := ownt21.base
    obtain ⟨g28, cap29, w30, hrun31, own32, hgr33, hgb34⟩ := own_app1k (P := Tryd.prog) (ty := 76) celT (ownt21) (Nat.le_trans hs7 (Nat.le_trans hs14 (Nat.le_trans hs17 (Nat.le_trans hs22 hs26)))) (k := s9.length) rfl (O := O24) (c := 1) (x := x9) (d := [.int .i64 (((x9.1 : Nat) : Int) : Int), .int .i64 (((x9.2 : Nat) : Int) : Int)]) (F := []) rfl (cells2 (bO24_0.1) (bO24_1.1)) (by simp [Value.oneCell']) (⟨rfl, rfl⟩) (fun b hb => by cases hb) (by omega) (by omega)
    refine ipl_step rfl (by kernel_rfl) (by kernel_rfl) (by kernel_rfl) (sn_eff (v := .slice (some ⟨g28, 0, none⟩) (s9.length + 1) cap29) (w' := w30) (ex_append rfl (by kernel_rfl) (by kernel_rfl) hrun31) ?_)
    replace bt20 := BoxAt.grownR bt20 hgb34 (own_not hbs38 (Nat.lt_of_lt_of_le lt4 (Nat.le_refl _)))
    replace hmo9 := (hgb34.block b (Array.getElem?_eq_some_iff.1 hmo9).1 (fun e => (own_not hbs38 (Nat.lt_of_lt_of_le hbl hs3)) e.symm)).trans hmo9
    replace hrk23 := hrk23.app hgb34 (ownt21) (fun k hk => .inl (.inr (hbs38 k hk)))
    replace hE := hgr33.ext _ hE hs3
    have hs35 := hgr33.size
    have hl36 := own32.base g28 rfl; have hh37 := own32.lt g28 rfl
    refine ipl_put rfl (by kernel_rfl) (by kernel_rfl) (sn_set (O := O1) (j := 0) (v := .slice (some ⟨g28, 0, none⟩) (s9.length + 1) cap29) (ex_store (p := .pointer (some ⟨O1, 0, none⟩)) (v := .slice (some ⟨g28, 0, none⟩) (s9.length + 1) cap29) rfl (by kernel_rfl) (by kernel_rfl) (st76 bt20.1 bt20.2)) bt20 ?_)
    intro X40 ho hv0 hk
    replace hE := ho.ext hE (Nat.le_of_eq hzO1)
    replace hmo9 := (ho.heap' _ (Nat.ne_of_lt (Nat.lt_of_lt_of_le hbl (Nat.le_of_eq hzO1)))).trans hmo9
    replace hrk23 := hrk23.turn ho (.inl (.inl rfl))
    replace own32 := own32.turn ho (own_not (own32.base) (Nat.lt_of_lt_of_le lt4 (Nat.le_refl _))) (fun _ _ _ h => by rw [h.2]; exact fun b hb => by cases hb)
    have hs41 : w30.heap.size ≤ X40.heap.size := Nat.le_of_eq ho.size.symm
    clear ho hk bt20
    have bt20 := hv0; clear hv0
    refine ipl_nil ?_
    refine iqw_block ?_
    exact iqw_nextL hrk23 ⟨(some ⟨g28, 0, none⟩), cap29, (Nat.le_trans hs7 (Nat.le_trans hs14 (Nat.le_trans hs17 (Nat.le_trans hs22 (Nat.le_trans hs26 (Nat.le_trans hs35 hs41)))))), hE, (by rw [List.length_append]; exact bt20), (by rw [List.length_append]; exact own32), hmo9⟩
  ·
    clear hc bO1_0 hE
    intro D42 w43 s9 hD46 hDl47 hall h hmk45
    obtain ⟨a9, c9, hs44, hE, b9, own9, hmo9⟩ := h
    refine iqw_block ?_
    refine iqw_then ?_
    refine icw_seq ?_
    refine icw_plain ?_
    refine ipl_take (.slice a9 s9.length c9) rfl (by kernel_rfl) (by kernel_rfl) (by kernel_rfl) (ex_load rfl (by kernel_rfl) (ld76 (b9.1))) ?_
    refine ipl_take (.slice a9 s9.length c9) rfl (by kernel_rfl) (by kernel_rfl) (by kernel_rfl) (by kernel_rfl) ?_
    refine ipl_nil ?_
    refine iqw_then ?_
    refine icw_ret ?_
    refine iqw_ret w.heap.size [.slice a9 s9.length c9] rfl (marksC (Nat.le_trans hs3 hD46) hmk45 (fun _ h => by cases h)) (by simp) (fun W9 hm9 => ?_)
    replace hE := hm9.ext hE (Nat.le_refl _)
    replace b9 := hm9.box b9
    replace own9 := hm9.own own9
    have hs48 := hm9.size
    refine ⟨⟨(by kernel_rfl), trivial⟩, ?_⟩
    exact ⟨_, _, s9, rfl, hall, (own9).lower hs3, hE⟩
set_option maxRecDepth 1000000 in
set_option maxHeartbeats 4000000 in
theorem Collect_c {b Bm : Nat} {lm : List ((Nat × Nat) × Bool)} (w : World) (hc : w.cell? ⟨Bm, 0, none⟩ = some (.map (some b))) (hm : MapS celV booV w b lm) (hn : lm.length ≤ 1000) : Calls Tryd.prog 74 #[.func (.func 76) #[] #[.pointer (some ⟨Bm, 0, none⟩)]] w fun e w' => ∃ (a' : Option Addr) (c' : Nat) (s : List (Nat × Nat)), e = .returned (.slice a' s.length c') ∧ s.Perm (lm.map Prod.fst) ∧ OwnL celR w.heap.size 33 2 (.slice a' s.length c') w' s ∧ Ext w w' := by
  refine calls_cw 5 [(0, .func (.func 76) #[] #[.pointer (some ⟨Bm, 0, none⟩)])] Tryd.func74 rfl Tryd.ntmps74 (by kernel_rfl) (by kernel_rfl) (fun L => ?_)
  have hE : Ext w w := Ext.refl w
  refine cw_seq ?_
  refine cw_plain ?_
  refine pl_take (.slice none 0 0) rfl (by kernel_rfl) (by kernel_rfl) (by kernel_rfl) (by kernel_rfl) ?_
  refine pl_nil ?_
  refine qw_then ?_
  refine cw_seq ?_
  refine cw_plain ?_
  refine pl_take (.func (.func 76) #[] #[.pointer (some ⟨Bm, 0, none⟩)]) rfl (by kernel_rfl) (by kernel_rfl) (by kernel_rfl) (by kernel_rfl) ?_
  refine pl_step rfl (by kernel_rfl) (by kernel_rfl) (by kernel_rfl) (sn_call (f := 81) (args := #[.slice none 0 0, .func (.func 76) #[] #[.pointer (some ⟨Bm, 0, none⟩)]]) (by kernel_rfl) ((AppendSeq_c _ ((Ext.refl _).cell hc) (hm.ext (Ext.refl _)) hn).mono ?_))
  rintro e w6 ⟨a1, c2, sq4, rfl, hp5, own3, hb⟩
  replace hE := hE.trans hb
  have hs7 := hb.size
  clear hb
  have hlq := hp5.length_eq
  simp only [List.length_map] at hlq
  refine ⟨_, rfl, ?_⟩
  refine pl_take (.slice a1 sq4.length c2) rfl (by kernel_rfl) (by kernel_rfl) (by kernel_rfl) (by kernel_rfl) ?_
  refine pl_nil ?_
  refine qw_then ?_
  refine cw_ret ?_
  refine qw_ret [.slice a1 sq4.length c2] rfl ⟨(by kernel_rfl), trivial⟩ ?_
  exact ⟨_, _, _, rfl, hp5, (own3).lower (Nat.le_refl _), hE⟩
set_option maxRecDepth 1000000 in
set_option maxHeartbeats 4000000 in
theorem SortedFunc_c {b Bm : Nat} {lm : List ((Nat × Nat) × Bool)} (w : World) (hc : w.cell? ⟨Bm, 0, none⟩ = some (.map (some b))) (hm : MapS celV booV w b lm) (hn : lm.length ≤ 1000) : Calls Tryd.prog 59 #[.func (.func 76) #[] #[.pointer (some ⟨Bm, 0, none⟩)], .func (.func 56) #[] #[]] w fun e w' => ∃ (a' : Option Addr) (c' : Nat) (rs' : List (Nat × Nat)) (n' : Nat), e = .returned (.slice a' n' c') ∧ rs'.Perm (lm.map Prod.fst) ∧ CelsAt w' a' n' rs' ∧ (∀ g, a' = some ⟨g, 0, none⟩ → w.heap.size ≤ g) ∧ Ext w w' := by
  refine calls_cw 12 [(1, .func (.func 56) #[] #[]), (0, .func (.func 76) #[] #[.pointer (some ⟨Bm, 0, none⟩)])] Tryd.func59 rfl Tryd.ntmps59 (by kernel_rfl) (by kernel_rfl) (fun L => ?_)
  have hE : Ext w w := Ext.refl w
  refine cw_seq ?_
  refine cw_plain ?_
  refine pl_take (.slice none 0 0) rfl (by kernel_rfl) (by kernel_rfl) (by kernel_rfl) (by kernel_rfl) ?_
  refine pl_nil ?_
  refine qw_then ?_
  refine cw_seq ?_
  refine cw_plain ?_
  refine pl_take (.func (.func 76) #[] #[.pointer (some ⟨Bm, 0, none⟩)]) rfl (by kernel_rfl) (by kernel_rfl) (by kernel_rfl) (by kernel_rfl) ?_
  refine pl_step rfl (by kernel_rfl) (by kernel_rfl) (by kernel_rfl) (sn_call (f := 74) (args := #[.func (.func 76) #[] #[.pointer (some ⟨Bm, 0, none⟩)]]) (by kernel_rfl) ((Collect_c _ ((Ext.refl _).cell hc) (hm.ext (Ext.refl _)) hn).mono ?_))
  rintro e w6 ⟨a1, c2, sq4, rfl, hp5, own3, hb⟩
  replace hE := hE.trans hb
  have hs7 := hb.size
  clear hb
  have hlq := hp5.length_eq
  simp only [List.length_map] at hlq
  refine ⟨_, rfl, ?_⟩
  refine pl_take (.slice a1 sq4.length c2) rfl (by kernel_rfl) (by kernel_rfl) (by kernel_rfl) (by kernel_rfl) ?_
  refine pl_nil ?_
  refine qw_then ?_
  refine cw_seq ?_
  refine cw_plain ?_
  refine pl_take (.slice a1 sq4.length c2) rfl (by kernel_rfl) (by kernel_rfl) (by kernel_rfl) (by kernel_rfl) ?_
  refine pl_take (.func (.func 56) #[] #[]) rfl (by kernel_rfl) (by kernel_rfl) (by kernel_rfl) (by kernel_rfl) ?_
  refine pl_step rfl (by kernel_rfl) (by kernel_rfl) (by kernel_rfl) (sn_call (f := 75) (args := #[.slice a1 sq4.length c2, .func (.func 56) #[] #[]]) (by kernel_rfl) ((SortC_c _ (own3) rfl (by omega)).mono ?_))
  rintro e w8 ⟨rfl, hP9⟩
  have hbs9 : ∀ g, a1 = some ⟨g, 0, none⟩ → w.heap.size ≤ g := fun g hg => by subst hg; exact own3.base g rfl
  obtain ⟨rs9, hp9, hr9, hU9, hz9⟩ := hP9
  replace hE := hU9 _ hE (Nat.le_refl _)
  have hs9 := hz9
  refine ⟨_, rfl, ?_⟩
  refine pl_nil ?_
  refine qw_then ?_
  refine cw_seq ?_
  refine cw_plain ?_
  refine pl_take (.slice a1 sq4.length c2) rfl (by kernel_rfl) (by kernel_rfl) (by kernel_rfl) (by kernel_rfl) ?_
  refine pl_take (.slice a1 sq4.length c2) rfl (by kernel_rfl) (by kernel_rfl) (by kernel_rfl) (by kernel_rfl) ?_
  refine pl_nil ?_
  refine qw_then ?_
  refine cw_ret ?_
  refine qw_ret [.slice a1 sq4.length c2] rfl ⟨(by kernel_rfl), trivial⟩ ?_
  exact ⟨_, _, rs9, _, rfl, hp9.trans hp5, hr9, hbs9, hE⟩

end Go.Proofs.YtdjjkhefdalokaaDoor

/- Orbits: what the document says of where a satellite is. -/
namespace Go.Proofs.YtdjjkhefdalokaaDoor
/-- An orbit. -/
structure Orb where
  (p f lo hi nd tn sl : Int)
namespace Orb
open Globe
def ok (o : Orb) : Bool := (inB o.p 20 2000 && (o.p.tmod 2 == 0) && inB o.f 0 (o.p - 1)) && (inB o.lo 0 23999 && inB o.hi 0 23999 && decide (o.lo < o.hi)) && inB o.nd 0 47999 && inB o.tn (-2000) 2000 && inB o.sl 0 10
theorem ok_t {o : Orb} : ok o = true ↔ (20 ≤ o.p ∧ o.p ≤ 2000 ∧ o.p.tmod 2 = 0) ∧ (0 ≤ o.f ∧ o.f ≤ o.p - 1) ∧ (0 ≤ o.lo ∧ o.lo ≤ 23999) ∧ (0 ≤ o.hi ∧ o.hi ≤ 23999) ∧ o.lo < o.hi ∧ (0 ≤ o.nd ∧ o.nd ≤ 47999) ∧ (-2000 ≤ o.tn ∧ o.tn ≤ 2000) ∧ 0 ≤ o.sl ∧ o.sl ≤ 10 := by
  unfold ok
  simp only [Bool.and_eq_true, inB_t, beq_iff_eq, decide_eq_true_eq]
  constructor
  · rintro ⟨⟨⟨⟨⟨⟨h1, h2⟩, h3⟩, ⟨h4, h5⟩, h6⟩, h7⟩, h8⟩, h9⟩; exact ⟨⟨h1.1, h1.2, h2⟩, h3, h4, h5, h6, h7, h8, h9⟩
  · rintro ⟨⟨h1, h1', h2⟩, h3, h4, h5, h6, h7, h8, h9⟩; exact ⟨⟨⟨⟨⟨⟨⟨h1, h1'⟩, h2⟩, h3⟩, ⟨h4, h5⟩, h6⟩, h7⟩, h8⟩, h9⟩
def ph (o : Orb) (t : Int) : Int := (t + o.f) % o.p
def up (o : Orb) (t : Int) : Int := min (ph o t) (o.p - ph o t)
def row (o : Orb) (t : Int) : Int := o.lo + (o.hi - o.lo) * 2 * up o t / o.p
def col (o : Orb) (t : Int) : Int := (o.nd + o.tn * t) % 48000
def atB (o : Orb) (t d : Int) : Bool := inB t 0 1000000 && inB d (-10) 10 && ok o
section
variable {o : Orb} (h : ok o = true) (t : Int)
include h
theorem ph_bd : 0 ≤ ph o t ∧ ph o t < o.p := by
  have := ok_t.1 h
  exact ⟨Int.emod_nonneg _ (by omega), Int.emod_lt_of_pos _ (by omega)⟩
theorem up_bd : 0 ≤ up o t ∧ 2 * up o t ≤ o.p := by
  have := ph_bd h t
  unfold up; omega
theorem mul_bd : 0 ≤ (o.hi - o.lo) * 2 * up o t ∧ (o.hi - o.lo) * 2 * up o t ≤ (o.hi - o.lo) * o.p := by
  have := ok_t.1 h
  obtain ⟨u0, u1⟩ := up_bd h t
  refine ⟨Int.mul_nonneg (by omega) u0, ?_⟩
  rw [Int.mul_assoc]
  exact Int.mul_le_mul_of_nonneg_left u1 (by omega)
theorem mul_le : (o.hi - o.lo) * o.p ≤ 47998000 := by
  have := ok_t.1 h
  calc (o.hi - o.lo) * o.p ≤ 23999 * o.p := Int.mul_le_mul_of_nonneg_right (by omega) (by omega)
    _ ≤ 47998000 := by omega
theorem row_bd : 0 ≤ row o t ∧ row o t ≤ 23999 := by
  have := ok_t.1 h
  obtain ⟨h0, h1⟩ := mul_bd h t
  unfold row
  have h2 : 0 ≤ (o.hi - o.lo) * 2 * up o t / o.p := Int.ediv_nonneg h0 (by omega)
  have h3 : (o.hi - o.lo) * 2 * up o t / o.p ≤ o.hi - o.lo := by
    have := Int.ediv_le_ediv (c := o.p) (by omega) h1
    rwa [Int.mul_ediv_cancel _ (by omega : o.p ≠ 0)] at this
  omega
omit h in
theorem col_bd : 0 ≤ col o t ∧ col o t ≤ 47999 := by
  unfold col; omega
theorem turn_bd (h0 : -10 ≤ t) (h1 : t ≤ 1000010) : -2000020000 ≤ o.tn * t ∧ o.tn * t ≤ 2000020000 := by
  have := ok_t.1 h
  have h2 : (o.tn * t).natAbs ≤ 2000 * 1000010 := by
    rw [Int.natAbs_mul]
    exact Nat.mul_le_mul (by omega) (by omega)
  omega
end
/-- The cell in which a satellite is. -/
def cx (o : Orb) (t : Int) : Nat := (col o t / 1000).toNat
def cy (o : Orb) (t : Int) : Nat := (row o t / 1000).toNat
theorem cx_lt (o : Orb) (t : Int) : cx o t < 48 := by have := col_bd (o := o) t; unfold cx; omega
theorem cy_lt {o : Orb} (h : ok o = true) (t : Int) : cy o t < 24 := by have := row_bd h t; unfold cy; omega
theorem cx_z (o : Orb) (t : Int) : col o t / 1000 = (cx o t : Int) := by have := col_bd (o := o) t; unfold cx; omega
theorem cy_z {o : Orb} (h : ok o = true) (t : Int) : row o t / 1000 = (cy o t : Int) := by have := row_bd h t; unfold cy; omega
/-- Around a circle, by remainders. -/
theorem around_eq {n c : Int} (h : 0 < c) : (n.tmod c + c).tmod c = n % c := by
  have h1 := Int.tmod_lt_of_pos n h
  have h2 : -c < n.tmod c := by
    have := Int.tmod_lt_of_pos (-n) h
    rw [Int.neg_tmod] at this; omega
  rw [Int.tmod_eq_emod_of_nonneg (by omega), Int.add_emod_right, Int.emod_eq_emod_iff_emod_sub_eq_zero.2]
  have h3 := Int.tmod_def n c
  have : n.tmod c - n = c * (-(n.tdiv c)) := by rw [Int.mul_neg]; omega
  rw [this]; exact Int.mul_emod_right _ _
theorem tmod_bd {n c : Int} (h : 0 < c) : -c < n.tmod c ∧ n.tmod c < c := by
  refine ⟨?_, Int.tmod_lt_of_pos n h⟩
  have := Int.tmod_lt_of_pos (-n) h
  rw [Int.neg_tmod] at this; omega
end Orb
end Go.Proofs.YtdjjkhefdalokaaDoor

/- Contracts of small functions: between two numbers. -/
namespace Go.Proofs.YtdjjkhefdalokaaDoor
open Go.RowKit

set_option maxRecDepth 1000000 in
set_option maxHeartbeats 4000000 in
theorem orbit_in_c (n lo hi : Int) (w : World) : Calls Tryd.prog 45 #[.int .i64 n, .int .i64 lo, .int .i64 hi] w fun e w' => e = .returned (.bool (Globe.inB n lo hi)) ∧ Ext w w' := by
  refine calls_cw 15 [(2, .int .i64 (hi : Int)), (1, .int .i64 (lo : Int)), (0, .int .i64 (n : Int))] Tryd.func45 rfl Tryd.ntmps45 (by kernel_rfl) (by kernel_rfl) (fun L => ?_)
  have hE : Ext w w := Ext.refl w
  refine cw_seq ?_
  refine cw_plain ?_
  refine pl_take (.bool false) rfl (by kernel_rfl) (by kernel_rfl) (by kernel_rfl) (by kernel_rfl) ?_
  refine pl_nil ?_
  refine qw_then ?_
  refine cw_seq ?_
  refine cw_plain ?_
  refine pl_take (.int .i64 (n : Int)) rfl (by kernel_rfl) (by kernel_rfl) (by kernel_rfl) (by kernel_rfl) ?_
  refine pl_take (.int .i64 (lo : Int)) rfl (by kernel_rfl) (by kernel_rfl) (by kernel_rfl) (by kernel_rfl) ?_
  by_cases hc1 : (n : Int) ≥ (lo : Int)
  ·
    refine pl_take (.bool true) rfl (by kernel_rfl) (by kernel_rfl) (by kernel_rfl) (ev_dec (show _ = Result.ok (Next.value (Value.bool (decide ((n : Int) ≥ (lo : Int))))) _ from by kernel_rfl) (hc1)) ?_
    refine pl_take (.bool true) rfl (by kernel_rfl) (by kernel_rfl) (by kernel_rfl) (by kernel_rfl) ?_
    refine pl_take (.int .i64 (n : Int)) rfl (by kernel_rfl) (by kernel_rfl) (by kernel_rfl) (by kernel_rfl) ?_
    refine pl_take (.int .i64 (hi : Int)) rfl (by kernel_rfl) (by kernel_rfl) (by kernel_rfl) (by kernel_rfl) ?_
    by_cases hc2 : (n : Int) ≤ (hi : Int)
    ·
      refine pl_take (.bool true) rfl (by kernel_rfl) (by kernel_rfl) (by kernel_rfl) (ev_dec (show _ = Result.ok (Next.value (Value.bool (decide ((n : Int) ≤ (hi : Int))))) _ from by kernel_rfl) (hc2)) ?_
      refine pl_take (.bool true) rfl (by kernel_rfl) (by kernel_rfl) (by kernel_rfl) (by kernel_rfl) ?_
      refine pl_take (.bool true) rfl (by kernel_rfl) (by kernel_rfl) (by kernel_rfl) (by kernel_rfl) ?_
      refine pl_nil ?_
      refine qw_then ?_
      refine cw_ret ?_
      refine qw_ret [.bool true] rfl ⟨(by kernel_rfl), trivial⟩ ?_
      exact ⟨congrArg (fun b => Ending.returned (Value.bool b)) (by first | exact (decide_eq_true (by omega)).symm | exact (decide_eq_false (by omega)).symm), hE⟩
    ·
      refine pl_take (.bool false) rfl (by kernel_rfl) (by kernel_rfl) (by kernel_rfl) (ev_ndec (show _ = Result.ok (Next.value (Value.bool (decide ((n : Int) ≤ (hi : Int))))) _ from by kernel_rfl) (hc2)) ?_
      refine pl_take (.bool false) rfl (by kernel_rfl) (by kernel_rfl) (by kernel_rfl) (by kernel_rfl) ?_
      refine pl_take (.bool false) rfl (by kernel_rfl) (by kernel_rfl) (by kernel_rfl) (by kernel_rfl) ?_
      refine pl_nil ?_
      refine qw_then ?_
      refine cw_ret ?_
      refine qw_ret [.bool false] rfl ⟨(by kernel_rfl), trivial⟩ ?_
      exact ⟨congrArg (fun b => Ending.returned (Value.bool b)) (by first | exact (decide_eq_true (by omega)).symm | exact (decide_eq_false (by omega)).symm), hE⟩
  ·
    refine pl_take (.bool false) rfl (by kernel_rfl) (by kernel_rfl) (by kernel_rfl) (ev_ndec (show _ = Result.ok (Next.value (Value.bool (decide ((n : Int) ≥ (lo : Int))))) _ from by kernel_rfl) (hc1)) ?_
    refine pl_take (.bool false) rfl (by kernel_rfl) (by kernel_rfl) (by kernel_rfl) (by kernel_rfl) ?_
    refine pl_skip rfl (by kernel_rfl) (by kernel_rfl) (by kernel_rfl) ?_
    refine pl_skip rfl (by kernel_rfl) (by kernel_rfl) (by kernel_rfl) ?_
    refine pl_skip rfl (by kernel_rfl) (by kernel_rfl) (by kernel_rfl) ?_
    refine pl_take (.bool false) rfl (by kernel_rfl) (by kernel_rfl) (by kernel_rfl) (by kernel_rfl) ?_
    refine pl_take (.bool false) rfl (by kernel_rfl) (by kernel_rfl) (by kernel_rfl) (by kernel_rfl) ?_
    refine pl_nil ?_
    refine qw_then ?_
    refine cw_ret ?_
    refine qw_ret [.bool false] rfl ⟨(by kernel_rfl), trivial⟩ ?_
    exact ⟨congrArg (fun b => Ending.returned (Value.bool b)) (by first | exact (decide_eq_true (by omega)).symm | exact (decide_eq_false (by omega)).symm), hE⟩
set_option maxRecDepth 1000000 in
set_option maxHeartbeats 4000000 in
theorem swath_isIn_c (n lo hi : Int) (w : World) : Calls Tryd.prog 25 #[.int .i64 n, .int .i64 lo, .int .i64 hi] w fun e w' => e = .returned (.bool (Globe.inB n lo hi)) ∧ Ext w w' := by
  refine calls_cw 15 [(2, .int .i64 (hi : Int)), (1, .int .i64 (lo : Int)), (0, .int .i64 (n : Int))] Tryd.func25 rfl Tryd.ntmps25 (by kernel_rfl) (by kernel_rfl) (fun L => ?_)
  have hE : Ext w w := Ext.refl w
  refine cw_seq ?_
  refine cw_plain ?_
  refine pl_take (.bool false) rfl (by kernel_rfl) (by kernel_rfl) (by kernel_rfl) (by kernel_rfl) ?_
  refine pl_nil ?_
  refine qw_then ?_
  refine cw_seq ?_
  refine cw_plain ?_
  refine pl_take (.int .i64 (lo : Int)) rfl (by kernel_rfl) (by kernel_rfl) (by kernel_rfl) (by kernel_rfl) ?_
  refine pl_take (.int .i64 (n : Int)) rfl (by kernel_rfl) (by kernel_rfl) (by kernel_rfl) (by kernel_rfl) ?_
  by_cases hc1 : (lo : Int) ≤ (n : Int)
  ·
    refine pl_take (.bool true) rfl (by kernel_rfl) (by kernel_rfl) (by kernel_rfl) (ev_dec (show _ = Result.ok (Next.value (Value.bool (decide ((lo : Int) ≤ (n : Int))))) _ from by kernel_rfl) (hc1)) ?_
    refine pl_take (.bool true) rfl (by kernel_rfl) (by kernel_rfl) (by kernel_rfl) (by kernel_rfl) ?_
    refine pl_take (.int .i64 (n : Int)) rfl (by kernel_rfl) (by kernel_rfl) (by kernel_rfl) (by kernel_rfl) ?_
    refine pl_take (.int .i64 (hi : Int)) rfl (by kernel_rfl) (by kernel_rfl) (by kernel_rfl) (by kernel_rfl) ?_
    by_cases hc2 : (n : Int) ≤ (hi : Int)
    ·
      refine pl_take (.bool true) rfl (by kernel_rfl) (by kernel_rfl) (by kernel_rfl) (ev_dec (show _ = Result.ok (Next.value (Value.bool (decide ((n : Int) ≤ (hi : Int))))) _ from by kernel_rfl) (hc2)) ?_
      refine pl_take (.bool true) rfl (by kernel_rfl) (by kernel_rfl) (by kernel_rfl) (by kernel_rfl) ?_
      refine pl_take (.bool true) rfl (by kernel_rfl) (by kernel_rfl) (by kernel_rfl) (by kernel_rfl) ?_
      refine pl_nil ?_
      refine qw_then ?_
      refine cw_ret ?_
      refine qw_ret [.bool true] rfl ⟨(by kernel_rfl), trivial⟩ ?_
      exact ⟨congrArg (fun b => Ending.returned (Value.bool b)) (by first | exact (decide_eq_true (by omega)).symm | exact (decide_eq_false (by omega)).symm), hE⟩
    ·
      refine pl_take (.bool false) rfl (by kernel_rfl) (by kernel_rfl) (by kernel_rfl) (ev_ndec (show _ = Result.ok (Next.value (Value.bool (decide ((n : Int) ≤ (hi : Int))))) _ from by kernel_rfl) (hc2)) ?_
      refine pl_take (.bool false) rfl (by kernel_rfl) (by kernel_rfl) (by kernel_rfl) (by kernel_rfl) ?_
      refine pl_take (.bool false) rfl (by kernel_rfl) (by kernel_rfl) (by kernel_rfl) (by kernel_rfl) ?_
      refine pl_nil ?_
      refine qw_then ?_
      refine cw_ret ?_
      refine qw_ret [.bool false] rfl ⟨(by kernel_rfl), trivial⟩ ?_
      exact ⟨congrArg (fun b => Ending.returned (Value.bool b)) (by first | exact (decide_eq_true (by omega)).symm | exact (decide_eq_false (by omega)).symm), hE⟩
  ·
    refine pl_take (.bool false) rfl (by kernel_rfl) (by kernel_rfl) (by kernel_rfl) (ev_ndec (show _ = Result.ok (Next.value (Value.bool (decide ((lo : Int) ≤ (n : Int))))) _ from by kernel_rfl) (hc1)) ?_
    refine pl_take (.bool false) rfl (by kernel_rfl) (by kernel_rfl) (by kernel_rfl) (by kernel_rfl) ?_
    refine pl_skip rfl (by kernel_rfl) (by kernel_rfl) (by kernel_rfl) ?_
    refine pl_skip rfl (by kernel_rfl) (by kernel_rfl) (by kernel_rfl) ?_
    refine pl_skip rfl (by kernel_rfl) (by kernel_rfl) (by kernel_rfl) ?_
    refine pl_take (.bool false) rfl (by kernel_rfl) (by kernel_rfl) (by kernel_rfl) (by kernel_rfl) ?_
    refine pl_take (.bool false) rfl (by kernel_rfl) (by kernel_rfl) (by kernel_rfl) (by kernel_rfl) ?_
    refine pl_nil ?_
    refine qw_then ?_
    refine cw_ret ?_
    refine qw_ret [.bool false] rfl ⟨(by kernel_rfl), trivial⟩ ?_
    exact ⟨congrArg (fun b => Ending.returned (Value.bool b)) (by first | exact (decide_eq_true (by omega)).symm | exact (decide_eq_false (by omega)).symm), hE⟩
theorem orbit_in_r (n lo hi : Int) {r : Bool} (w : World) (hr : Globe.inB n lo hi = r) : Calls Tryd.prog 45 #[.int .i64 n, .int .i64 lo, .int .i64 hi] w fun e w' => e = .returned (.bool r) ∧ Ext w w' := hr ▸ orbit_in_c n lo hi w
theorem swath_isIn_r (n lo hi : Int) {r : Bool} (w : World) (hr : Globe.inB n lo hi = r) : Calls Tryd.prog 25 #[.int .i64 n, .int .i64 lo, .int .i64 hi] w fun e w' => e = .returned (.bool r) ∧ Ext w w' := hr ▸ swath_isIn_c n lo hi w

end Go.Proofs.YtdjjkhefdalokaaDoor

/- Contracts of package orbit: around, Valid. -/
namespace Go.Proofs.YtdjjkhefdalokaaDoor
open Go.RowKit

set_option maxRecDepth 1000000 in
set_option maxHeartbeats 4000000 in
theorem around_c (n c : Int) (w : World) (h0 : 0 < c) (hc : c ≤ 48000) : Calls Tryd.prog 67 #[.int .i64 n, .int .i64 c] w fun e w' => e = .returned (.int .i64 (n % c)) ∧ Ext w w' := by
  have ht := Orb.tmod_bd (n := n) h0
  refine calls_cw 12 [(1, .int .i64 (c : Int)), (0, .int .i64 (n : Int))] Tryd.func67 rfl Tryd.ntmps67 (by kernel_rfl) (by kernel_rfl) (fun L => ?_)
  have hE : Ext w w := Ext.refl w
  refine cw_seq ?_
  refine cw_plain ?_
  refine pl_take (.int .i64 0) rfl (by kernel_rfl) (by kernel_rfl) (by kernel_rfl) (by kernel_rfl) ?_
  refine pl_nil ?_
  refine qw_then ?_
  refine cw_seq ?_
  refine cw_plain ?_
  refine pl_take (.int .i64 (n : Int)) rfl (by kernel_rfl) (by kernel_rfl) (by kernel_rfl) (by kernel_rfl) ?_
  refine pl_take (.int .i64 (c : Int)) rfl (by kernel_rfl) (by kernel_rfl) (by kernel_rfl) (by kernel_rfl) ?_
  refine pl_take (.int .i64 ((n : Int).tmod c : Int)) rfl (by kernel_rfl) (by kernel_rfl) (by kernel_rfl) (ex_bin (a := n) (b := c) rfl (by kernel_rfl) (by kernel_rfl) (bin_tmod (by omega))) ?_
  refine pl_take (.int .i64 (c : Int)) rfl (by kernel_rfl) (by kernel_rfl) (by kernel_rfl) (by kernel_rfl) ?_
  refine pl_take (.int .i64 (((n : Int).tmod c) + c : Int)) rfl (by kernel_rfl) (by kernel_rfl) (by kernel_rfl) (ev_wrap (by kernel_rfl) (by omega) (by omega)) ?_
  refine pl_take (.int .i64 (c : Int)) rfl (by kernel_rfl) (by kernel_rfl) (by kernel_rfl) (by kernel_rfl) ?_
  refine pl_take (.int .i64 (n % c : Int)) rfl (by kernel_rfl) (by kernel_rfl) (by kernel_rfl) (ev_int (ex_bin (a := n.tmod c + c) (b := c) rfl (by kernel_rfl) (by kernel_rfl) (bin_tmod (by omega))) (Orb.around_eq h0)) ?_
  refine pl_take (.int .i64 (n % c : Int)) rfl (by kernel_rfl) (by kernel_rfl) (by kernel_rfl) (by kernel_rfl) ?_
  refine pl_nil ?_
  refine qw_then ?_
  refine cw_ret ?_
  refine qw_ret [.int .i64 (n % c : Int)] rfl ⟨(by kernel_rfl), trivial⟩ ?_
  exact ⟨rfl, hE⟩
set_option maxRecDepth 1000000 in
set_option maxHeartbeats 4000000 in
theorem oValid_c (o : Orb) (w : World) : Calls Tryd.prog 35 #[.agg #[.int .i64 o.p, .int .i64 o.f, .int .i64 o.lo, .int .i64 o.hi, .int .i64 o.nd, .int .i64 o.tn, .int .i64 o.sl]] w fun e w' => e = .returned (.bool (Orb.ok o)) ∧ Ext w w' := by
  refine calls_cw 56 [(0, .agg #[.int .i64 (o.p : Int), .int .i64 (o.f : Int), .int .i64 (o.lo : Int), .int .i64 (o.hi : Int), .int .i64 (o.nd : Int), .int .i64 (o.tn : Int), .int .i64 (o.sl : Int)])] Tryd.func35 rfl Tryd.ntmps35 (by kernel_rfl) (by kernel_rfl) (fun L => ?_)
  have hE : Ext w w := Ext.refl w
  refine cw_seq ?_
  refine cw_plain ?_
  refine pl_step rfl (by kernel_rfl) (by kernel_rfl) (by kernel_rfl) (sn_new (us := #[.int .i64 (o.p : Int), .int .i64 (o.f : Int), .int .i64 (o.lo : Int), .int .i64 (o.hi : Int), .int .i64 (o.nd : Int), .int .i64 (o.tn : Int), .int .i64 (o.sl : Int)]) (t := 26) (by kernel_rfl) ?_)
  intro O1 X2 hO hOs hb hbx
  have hzO1 := hO; have hyO1 := hOs; clear hO hOs
  have bO1_0 : BoxAt X2 O1 0 (.int .i64 (o.p : Int)) := hbx 0 _ rfl
  have bO1_1 : BoxAt X2 O1 1 (.int .i64 (o.f : Int)) := hbx 1 _ rfl
  have bO1_2 : BoxAt X2 O1 2 (.int .i64 (o.lo : Int)) := hbx 2 _ rfl
  have bO1_3 : BoxAt X2 O1 3 (.int .i64 (o.hi : Int)) := hbx 3 _ rfl
  have bO1_4 : BoxAt X2 O1 4 (.int .i64 (o.nd : Int)) := hbx 4 _ rfl
  have bO1_5 : BoxAt X2 O1 5 (.int .i64 (o.tn : Int)) := hbx 5 _ rfl
  have bO1_6 : BoxAt X2 O1 6 (.int .i64 (o.sl : Int)) := hbx 6 _ rfl
  clear hbx
  replace hE := hE.trans hb
  have hs3 := hb.size
  clear hb
  have lt4 := bO1_0.lt
  refine pl_take (.bool false) rfl (by kernel_rfl) (by kernel_rfl) (by kernel_rfl) (by kernel_rfl) ?_
  refine pl_nil ?_
  refine qw_then ?_
  refine cw_seq ?_
  have hX5 : Ext X2 X2 := Ext.refl _
  refine cw_plain ?_
  refine pl_take (.pointer (some ⟨O1, 0, none⟩)) rfl (by kernel_rfl) (by kernel_rfl) (by kernel_rfl) (by kernel_rfl) ?_
  refine pl_take (.int .i64 (o.p : Int)) rfl (by kernel_rfl) (by kernel_rfl) (by kernel_rfl) (ex_load rfl (by kernel_rfl) (ld3 (bO1_0.1))) ?_
  rcases Bool.eq_false_or_eq_true (Globe.inB o.p 20 2000) with hb6 | hb6
  ·
    have hq7 := Globe.inB_t.1 hb6
    refine pl_step rfl (by kernel_rfl) (by kernel_rfl) (by kernel_rfl) (sn_call (f := 45) (args := #[.int .i64 (o.p : Int), .int .i64 20, .int .i64 2000]) (by kernel_rfl) ((orbit_in_r (r := true) o.p 20 2000 _ (hb6)).mono ?_))
    rintro e w8 ⟨rfl, hb⟩
    replace hE := hE.trans hb
    replace hX5 := hX5.trans hb
    have hs9 := hb.size
    clear hb
    refine ⟨_, rfl, ?_⟩
    refine pl_take (.bool true) rfl (by kernel_rfl) (by kernel_rfl) (by kernel_rfl) (by kernel_rfl) ?_
    refine pl_take (.pointer (some ⟨O1, 0, none⟩)) rfl (by kernel_rfl) (by kernel_rfl) (by kernel_rfl) (by kernel_rfl) ?_
    refine pl_take (.int .i64 (o.p : Int)) rfl (by kernel_rfl) (by kernel_rfl) (by kernel_rfl) (ex_load rfl (by kernel_rfl) (ld3 ((BoxAt.ext hX5 bO1_0).1))) ?_
    refine pl_take (.int .i64 ((o.p : Int).tmod 2 : Int)) rfl (by kernel_rfl) (by kernel_rfl) (by kernel_rfl) (ex_bin (a := o.p) (b := 2) rfl (by kernel_rfl) (by kernel_rfl) (bin_tmod (by omega))) ?_
    by_cases hc10 : ((o.p : Int).tmod 2 : Int) = (0 : Int)
    ·
      refine pl_take (.bool true) rfl (by kernel_rfl) (by kernel_rfl) (by kernel_rfl) (ev_eq (show _ = Result.ok (Next.value (Value.bool (((o.p : Int).tmod 2 : Int) == (0 : Int)))) _ from by kernel_rfl) (hc10)) ?_
      refine pl_take (.bool true) rfl (by kernel_rfl) (by kernel_rfl) (by kernel_rfl) (by kernel_rfl) ?_
      refine pl_take (.bool true) rfl (by kernel_rfl) (by kernel_rfl) (by kernel_rfl) (by kernel_rfl) ?_
      refine pl_take (.pointer (some ⟨O1, 1, none⟩)) rfl (by kernel_rfl) (by kernel_rfl) (by kernel_rfl) (by kernel_rfl) ?_
      refine pl_take (.int .i64 (o.f : Int)) rfl (by kernel_rfl) (by kernel_rfl) (by kernel_rfl) (ex_load rfl (by kernel_rfl) (ld3 ((BoxAt.ext hX5 bO1_1).1))) ?_
      refine pl_take (.pointer (some ⟨O1, 0, none⟩)) rfl (by kernel_rfl) (by kernel_rfl) (by kernel_rfl) (by kernel_rfl) ?_
      refine pl_take (.int .i64 (o.p : Int)) rfl (by kernel_rfl) (by kernel_rfl) (by kernel_rfl) (ex_load rfl (by kernel_rfl) (ld3 ((BoxAt.ext hX5 bO1_0).1))) ?_
      refine pl_take (.int .i64 (o.p - 1 : Int)) rfl (by kernel_rfl) (by kernel_rfl) (by kernel_rfl) (ev_wrap (by kernel_rfl) (by omega) (by omega)) ?_
      rcases Bool.eq_false_or_eq_true (Globe.inB o.f 0 (o.p - 1)) with hb11 | hb11
      ·
        have hq12 := Globe.inB_t.1 hb11
        refine pl_step rfl (by kernel_rfl) (by kernel_rfl) (by kernel_rfl) (sn_call (f := 45) (args := #[.int .i64 (o.f : Int), .int .i64 0, .int .i64 (o.p - 1 : Int)]) (by kernel_rfl) ((orbit_in_r (r := true) o.f 0 (o.p - 1) _ (hb11)).mono ?_))
        rintro e w13 ⟨rfl, hb⟩
        replace hE := hE.trans hb
        replace hX5 := hX5.trans hb
        have hs14 := hb.size
        clear hb
        refine ⟨_, rfl, ?_⟩
        refine pl_take (.bool true) rfl (by kernel_rfl) (by kernel_rfl) (by kernel_rfl) (by kernel_rfl) ?_
        refine pl_take (.bool true) rfl (by kernel_rfl) (by kernel_rfl) (by kernel_rfl) (by kernel_rfl) ?_
        refine pl_nil ?_
        refine qw_then ?_
        refine cw_clean [1, 3] (ws' := [(1, .pointer (some ⟨O1, 0, none⟩)), (3, .bool true)]) (by kernel_rfl) (fun L => ?_)
        refine cw_seq ?_
        refine cw_plain ?_
        refine pl_take (.pointer (some ⟨O1, 2, none⟩)) rfl (by kernel_rfl) (by kernel_rfl) (by kernel_rfl) (by kernel_rfl) ?_
        refine pl_take (.int .i64 (o.lo : Int)) rfl (by kernel_rfl) (by kernel_rfl) (by kernel_rfl) (ex_load rfl (by kernel_rfl) (ld3 ((BoxAt.ext hX5 bO1_2).1))) ?_
        rcases Bool.eq_false_or_eq_true (Globe.inB o.lo 0 23999) with hb15 | hb15
        ·
          have hq16 := Globe.inB_t.1 hb15
          refine pl_step rfl (by kernel_rfl) (by kernel_rfl) (by kernel_rfl) (sn_call (f := 45) (args := #[.int .i64 (o.lo : Int), .int .i64 0, .int .i64 23999]) (by kernel_rfl) ((orbit_in_r (r := true) o.lo 0 23999 _ (hb15)).mono ?_))
          rintro e w17 ⟨rfl, hb⟩
          replace hE := hE.trans hb
          replace hX5 := hX5.trans hb
          have hs18 := hb.size
          clear hb
          refine ⟨_, rfl, ?_⟩
          refine pl_take (.bool true) rfl (by kernel_rfl) (by kernel_rfl) (by kernel_rfl) (by kernel_rfl) ?_
          refine pl_take (.pointer (some ⟨O1, 3, none⟩)) rfl (by kernel_rfl) (by kernel_rfl) (by kernel_rfl) (by kernel_rfl) ?_
          refine pl_take (.int .i64 (o.hi : Int)) rfl (by kernel_rfl) (by kernel_rfl) (by kernel_rfl) (ex_load rfl (by kernel_rfl) (ld3 ((BoxAt.ext hX5 bO1_3).1))) ?_
          rcases Bool.eq_false_or_eq_true (Globe.inB o.hi 0 23999) with hb19 | hb19
          ·
            have hq20 := Globe.inB_t.1 hb19
            refine pl_step rfl (by kernel_rfl) (by kernel_rfl) (by kernel_rfl) (sn_call (f := 45) (args := #[.int .i64 (o.hi : Int), .int .i64 0, .int .i64 23999]) (by kernel_rfl) ((orbit_in_r (r := true) o.hi 0 23999 _ (hb19)).mono ?_))
            rintro e w21 ⟨rfl, hb⟩
            replace hE := hE.trans hb
            replace hX5 := hX5.trans hb
            have hs22 := hb.size
            clear hb
            refine ⟨_, rfl, ?_⟩
            refine pl_take (.bool true) rfl (by kernel_rfl) (by kernel_rfl) (by kernel_rfl) (by kernel_rfl) ?_
            refine pl_take (.bool true) rfl (by kernel_rfl) (by kernel_rfl) (by kernel_rfl) (by kernel_rfl) ?_
            refine pl_take (.pointer (some ⟨O1, 2, none⟩)) rfl (by kernel_rfl) (by kernel_rfl) (by kernel_rfl) (by kernel_rfl) ?_
            refine pl_take (.int .i64 (o.lo : Int)) rfl (by kernel_rfl) (by kernel_rfl) (by kernel_rfl) (ex_load rfl (by kernel_rfl) (ld3 ((BoxAt.ext hX5 bO1_2).1))) ?_
            refine pl_take (.pointer (some ⟨O1, 3, none⟩)) rfl (by kernel_rfl) (by kernel_rfl) (by kernel_rfl) (by kernel_rfl) ?_
            refine pl_take (.int .i64 (o.hi : Int)) rfl (by kernel_rfl) (by kernel_rfl) (by kernel_rfl) (ex_load rfl (by kernel_rfl) (ld3 ((BoxAt.ext hX5 bO1_3).1))) ?_
            by_cases hc23 : (o.lo : Int) < (o.hi : Int)
            ·
              refine pl_take (.bool true) rfl (by kernel_rfl) (by kernel_rfl) (by kernel_rfl) (ev_dec (show _ = Result.ok (Next.value (Value.bool (decide ((o.lo : Int) < (o.hi : Int))))) _ from by kernel_rfl) (hc23)) ?_
              refine pl_take (.bool true) rfl (by kernel_rfl) (by kernel_rfl) (by kernel_rfl) (by kernel_rfl) ?_
              refine pl_take (.bool true) rfl (by kernel_rfl) (by kernel_rfl) (by kernel_rfl) (by kernel_rfl) ?_
              refine pl_nil ?_
              refine qw_then ?_
              refine cw_clean [1, 3, 4] (ws' := [(1, .pointer (some ⟨O1, 0, none⟩)), (3, .bool true), (4, .bool true)]) (by kernel_rfl) (fun L => ?_)
              refine cw_seq ?_
              refine cw_plain ?_
              refine pl_take (.bool true) rfl (by kernel_rfl) (by kernel_rfl) (by kernel_rfl) (by kernel_rfl) ?_
              refine pl_take (.bool true) rfl (by kernel_rfl) (by kernel_rfl) (by kernel_rfl) (by kernel_rfl) ?_
              refine pl_take (.bool true) rfl (by kernel_rfl) (by kernel_rfl) (by kernel_rfl) (by kernel_rfl) ?_
              refine pl_take (.bool true) rfl (by kernel_rfl) (by kernel_rfl) (by kernel_rfl) (by kernel_rfl) ?_
              refine pl_take (.bool true) rfl (by kernel_rfl) (by kernel_rfl) (by kernel_rfl) (by kernel_rfl) ?_
              refine pl_take (.pointer (some ⟨O1, 4, none⟩)) rfl (by kernel_rfl) (by kernel_rfl) (by kernel_rfl) (by kernel_rfl) ?_
              refine pl_take (.int .i64 (o.nd : Int)) rfl (by kernel_rfl) (by kernel_rfl) (by kernel_rfl) (ex_load rfl (by kernel_rfl) (ld3 ((BoxAt.ext hX5 bO1_4).1))) ?_
              rcases Bool.eq_false_or_eq_true (Globe.inB o.nd 0 47999) with hb24 | hb24
              ·
                have hq25 := Globe.inB_t.1 hb24
                refine pl_step rfl (by kernel_rfl) (by kernel_rfl) (by kernel_rfl) (sn_call (f := 45) (args := #[.int .i64 (o.nd : Int), .int .i64 0, .int .i64 47999]) (by kernel_rfl) ((orbit_in_r (r := true) o.nd 0 47999 _ (hb24)).mono ?_))
                rintro e w26 ⟨rfl, hb⟩
                replace hE := hE.trans hb
                replace hX5 := hX5.trans hb
                have hs27 := hb.size
                clear hb
                refine ⟨_, rfl, ?_⟩
                refine pl_take (.bool true) rfl (by kernel_rfl) (by kernel_rfl) (by kernel_rfl) (by kernel_rfl) ?_
                refine pl_take (.bool true) rfl (by kernel_rfl) (by kernel_rfl) (by kernel_rfl) (by kernel_rfl) ?_
                refine pl_take (.pointer (some ⟨O1, 5, none⟩)) rfl (by kernel_rfl) (by kernel_rfl) (by kernel_rfl) (by kernel_rfl) ?_
                refine pl_take (.int .i64 (o.tn : Int)) rfl (by kernel_rfl) (by kernel_rfl) (by kernel_rfl) (ex_load rfl (by kernel_rfl) (ld3 ((BoxAt.ext hX5 bO1_5).1))) ?_
                rcases Bool.eq_false_or_eq_true (Globe.inB o.tn (-2000) 2000) with hb28 | hb28
                ·
                  have hq29 := Globe.inB_t.1 hb28
                  refine pl_step rfl (by kernel_rfl) (by kernel_rfl) (by kernel_rfl) (sn_call (f := 45) (args := #[.int .i64 (o.tn : Int), .int .i64 (-2000 : Int), .int .i64 2000]) (by kernel_rfl) ((orbit_in_r (r := true) o.tn (-2000) 2000 _ (hb28)).mono ?_))
                  rintro e w30 ⟨rfl, hb⟩
                  replace hE := hE.trans hb
                  replace hX5 := hX5.trans hb
                  have hs31 := hb.size
                  clear hb
                  refine ⟨_, rfl, ?_⟩
                  refine pl_take (.bool true) rfl (by kernel_rfl) (by kernel_rfl) (by kernel_rfl) (by kernel_rfl) ?_
                  refine pl_take (.bool true) rfl (by kernel_rfl) (by kernel_rfl) (by kernel_rfl) (by kernel_rfl) ?_
                  refine pl_take (.pointer (some ⟨O1, 6, none⟩)) rfl (by kernel_rfl) (by kernel_rfl) (by kernel_rfl) (by kernel_rfl) ?_
                  refine pl_take (.int .i64 (o.sl : Int)) rfl (by kernel_rfl) (by kernel_rfl) (by kernel_rfl) (ex_load rfl (by kernel_rfl) (ld3 ((BoxAt.ext hX5 bO1_6).1))) ?_
                  rcases Bool.eq_false_or_eq_true (Globe.inB o.sl 0 10) with hb32 | hb32
                  ·
                    have hq33 := Globe.inB_t.1 hb32
                    refine pl_step rfl (by kernel_rfl) (by kernel_rfl) (by kernel_rfl) (sn_call (f := 45) (args := #[.int .i64 (o.sl : Int), .int .i64 0, .int .i64 10]) (by kernel_rfl) ((orbit_in_r (r := true) o.sl 0 10 _ (hb32)).mono ?_))
                    rintro e w34 ⟨rfl, hb⟩
                    replace hE := hE.trans hb
                    replace hX5 := hX5.trans hb
                    have hs35 := hb.size
                    clear hb
                    refine ⟨_, rfl, ?_⟩
                    refine pl_take (.bool true) rfl (by kernel_rfl) (by kernel_rfl) (by kernel_rfl) (by kernel_rfl) ?_
                    refine pl_take (.bool true) rfl (by kernel_rfl) (by kernel_rfl) (by kernel_rfl) (by kernel_rfl) ?_
                    refine pl_nil ?_
                    refine qw_then ?_
                    refine cw_clean [2] (ws' := [(2, .bool true)]) (by kernel_rfl) (fun L => ?_)
                    refine cw_ret ?_
                    refine qw_ret [.bool true] rfl ⟨(by kernel_rfl), trivial⟩ ?_
                    exact ⟨congrArg (fun b => Ending.returned (Value.bool b)) (show Orb.ok o = true by simp [Orb.ok, hb6, hb11, hb15, hb19, hb24, hb28, hb32, hc10, hc23]).symm, hE⟩
                  ·
                    refine pl_step rfl (by kernel_rfl) (by kernel_rfl) (by kernel_rfl) (sn_call (f := 45) (args := #[.int .i64 (o.sl : Int), .int .i64 0, .int .i64 10]) (by kernel_rfl) ((orbit_in_r (r := false) o.sl 0 10 _ (hb32)).mono ?_))
                    rintro e w36 ⟨rfl, hb⟩
                    replace hE := hE.trans hb
                    replace hX5 := hX5.trans hb
                    have hs37 := hb.size
                    clear hb
                    refine ⟨_, rfl, ?_⟩
                    refine pl_take (.bool false) rfl (by kernel_rfl) (by kernel_rfl) (by kernel_rfl) (by kernel_rfl) ?_
                    refine pl_take (.bool false) rfl (by kernel_rfl) (by kernel_rfl) (by kernel_rfl) (by kernel_rfl) ?_
                    refine pl_nil ?_
                    refine qw_then ?_
                    refine cw_clean [2] (ws' := [(2, .bool false)]) (by kernel_rfl) (fun L => ?_)
                    refine cw_ret ?_
                    refine qw_ret [.bool false] rfl ⟨(by kernel_rfl), trivial⟩ ?_
                    exact ⟨congrArg (fun b => Ending.returned (Value.bool b)) (show Orb.ok o = false by simp [Orb.ok, hb6, hb11, hb15, hb19, hb24, hb28, hb32, hc10, hc23]).symm, hE⟩
                ·
                  refine pl_step rfl (by kernel_rfl) (by kernel_rfl) (by kernel_rfl) (sn_call (f := 45) (args := #[.int .i64 (o.tn : Int), .int .i64 (-2000 : Int), .int .i64 2000]) (by kernel_rfl) ((orbit_in_r (r := false) o.tn (-2000) 2000 _ (hb28)).mono ?_))
                  rintro e w38 ⟨rfl, hb⟩
                  replace hE := hE.trans hb
                  replace hX5 := hX5.trans hb
                  have hs39 := hb.size
                  clear hb
                  refine ⟨_, rfl, ?_⟩
                  refine pl_take (.bool false) rfl (by kernel_rfl) (by kernel_rfl) (by kernel_rfl) (by kernel_rfl) ?_
                  refine pl_take (.bool false) rfl (by kernel_rfl) (by kernel_rfl) (by kernel_rfl) (by kernel_rfl) ?_
                  refine pl_skip rfl (by kernel_rfl) (by kernel_rfl) (by kernel_rfl) ?_
                  refine pl_skip rfl (by kernel_rfl) (by kernel_rfl) (by kernel_rfl) ?_
                  refine pl_skip rfl (by kernel_rfl) (by kernel_rfl) (by kernel_rfl) ?_
                  refine pl_take (.bool false) rfl (by kernel_rfl) (by kernel_rfl) (by kernel_rfl) (by kernel_rfl) ?_
                  refine pl_take (.bool false) rfl (by kernel_rfl) (by kernel_rfl) (by kernel_rfl) (by kernel_rfl) ?_
                  refine pl_nil ?_
                  refine qw_then ?_
                  refine cw_clean [2] (ws' := [(2, .bool false)]) (by kernel_rfl) (fun L => ?_)
                  refine cw_ret ?_
                  refine qw_ret [.bool false] rfl ⟨(by kernel_rfl), trivial⟩ ?_
                  exact ⟨congrArg (fun b => Ending.returned (Value.bool b)) (show Orb.ok o = false by simp [Orb.ok, hb6, hb11, hb15, hb19, hb24, hb28, hc10, hc23]).symm, hE⟩
              ·
                refine pl_step rfl (by kernel_rfl) (by kernel_rfl) (by kernel_rfl) (sn_call (f := 45) (args := #[.int .i64 (o.nd : Int), .int .i64 0, .int .i64 47999]) (by kernel_rfl) ((orbit_in_r (r := false) o.nd 0 47999 _ (hb24)).mono ?_))
                rintro e w40 ⟨rfl, hb⟩
                replace hE := hE.trans hb
                replace hX5 := hX5.trans hb
                have hs41 := hb.size
                clear hb
                refine ⟨_, rfl, ?_⟩
                refine pl_take (.bool false) rfl (by kernel_rfl) (by kernel_rfl) (by kernel_rfl) (by kernel_rfl) ?_
                refine pl_take (.bool false) rfl (by kernel_rfl) (by kernel_rfl) (by kernel_rfl) (by kernel_rfl) ?_
                refine pl_skip rfl (by kernel_rfl) (by kernel_rfl) (by kernel_rfl) ?_
                refine pl_skip rfl (by kernel_rfl) (by kernel_rfl) (by kernel_rfl) ?_
                refine pl_skip rfl (by kernel_rfl) (by kernel_rfl) (by kernel_rfl) ?_
                refine pl_take (.bool false) rfl (by kernel_rfl) (by kernel_rfl) (by kernel_rfl) (by kernel_rfl) ?_
                refine pl_take (.bool false) rfl (by kernel_rfl) (by kernel_rfl) (by kernel_rfl) (by kernel_rfl) ?_
                refine pl_skip rfl (by kernel_rfl) (by kernel_rfl) (by kernel_rfl) ?_
                refine pl_skip rfl (by kernel_rfl) (by kernel_rfl) (by kernel_rfl) ?_
                refine pl_skip rfl (by kernel_rfl) (by kernel_rfl) (by kernel_rfl) ?_
                refine pl_take (.bool false) rfl (by kernel_rfl) (by kernel_rfl) (by kernel_rfl) (by kernel_rfl) ?_
                refine pl_take (.bool false) rfl (by kernel_rfl) (by kernel_rfl) (by kernel_rfl) (by kernel_rfl) ?_
                refine pl_nil ?_
                refine qw_then ?_
                refine cw_clean [2] (ws' := [(2, .bool false)]) (by kernel_rfl) (fun L => ?_)
                refine cw_ret ?_
                refine qw_ret [.bool false] rfl ⟨(by kernel_rfl), trivial⟩ ?_
                exact ⟨congrArg (fun b => Ending.returned (Value.bool b)) (show Orb.ok o = false by simp [Orb.ok, hb6, hb11, hb15, hb19, hb24, hc10, hc23]).symm, hE⟩
            ·
              refine pl_take (.bool false) rfl (by kernel_rfl) (by kernel_rfl) (by kernel_rfl) (ev_ndec (show _ = Result.ok (Next.value (Value.bool (decide ((o.lo : Int) < (o.hi : Int))))) _ from by kernel_rfl) (hc23)) ?_
              refine pl_take (.bool false) rfl (by kernel_rfl) (by kernel_rfl) (by kernel_rfl) (by kernel_rfl) ?_
              refine pl_take (.bool false) rfl (by kernel_rfl) (by kernel_rfl) (by kernel_rfl) (by kernel_rfl) ?_
              refine pl_nil ?_
              refine qw_then ?_
              refine cw_clean [1, 3, 4] (ws' := [(1, .pointer (some ⟨O1, 0, none⟩)), (3, .bool true), (4, .bool false)]) (by kernel_rfl) (fun L => ?_)
              refine cw_seq ?_
              refine cw_plain ?_
              refine pl_take (.bool true) rfl (by kernel_rfl) (by kernel_rfl) (by kernel_rfl) (by kernel_rfl) ?_
              refine pl_take (.bool true) rfl (by kernel_rfl) (by kernel_rfl) (by kernel_rfl) (by kernel_rfl) ?_
              refine pl_take (.bool false) rfl (by kernel_rfl) (by kernel_rfl) (by kernel_rfl) (by kernel_rfl) ?_
              refine pl_take (.bool false) rfl (by kernel_rfl) (by kernel_rfl) (by kernel_rfl) (by kernel_rfl) ?_
              refine pl_take (.bool false) rfl (by kernel_rfl) (by kernel_rfl) (by kernel_rfl) (by kernel_rfl) ?_
              refine pl_skip rfl (by kernel_rfl) (by kernel_rfl) (by kernel_rfl) ?_
              refine pl_skip rfl (by kernel_rfl) (by kernel_rfl) (by kernel_rfl) ?_
              refine pl_skip rfl (by kernel_rfl) (by kernel_rfl) (by kernel_rfl) ?_
              refine pl_take (.bool false) rfl (by kernel_rfl) (by kernel_rfl) (by kernel_rfl) (by kernel_rfl) ?_
              refine pl_take (.bool false) rfl (by kernel_rfl) (by kernel_rfl) (by kernel_rfl) (by kernel_rfl) ?_
              refine pl_skip rfl (by kernel_rfl) (by kernel_rfl) (by kernel_rfl) ?_
              refine pl_skip rfl (by kernel_rfl) (by kernel_rfl) (by kernel_rfl) ?_
              refine pl_skip rfl (by kernel_rfl) (by kernel_rfl) (by kernel_rfl) ?_
              refine pl_take (.bool false) rfl (by kernel_rfl) (by kernel_rfl) (by kernel_rfl) (by kernel_rfl) ?_
              refine pl_take (.bool false) rfl (by kernel_rfl) (by kernel_rfl) (by kernel_rfl) (by kernel_rfl) ?_
              refine pl_skip rfl (by kernel_rfl) (by kernel_rfl) (by kernel_rfl) ?_
              refine pl_skip rfl (by kernel_rfl) (by kernel_rfl) (by kernel_rfl) ?_
              refine pl_skip rfl (by kernel_rfl) (by kernel_rfl) (by kernel_rfl) ?_
              refine pl_take (.bool false) rfl (by kernel_rfl) (by kernel_rfl) (by kernel_rfl) (by kernel_rfl) ?_
              refine pl_take (.bool false) rfl (by kernel_rfl) (by kernel_rfl) (by kernel_rfl) (by kernel_rfl) ?_
              refine pl_nil ?_
              refine qw_then ?_
              refine cw_clean [2] (ws' := [(2, .bool false)]) (by kernel_rfl) (fun L => ?_)
              refine cw_ret ?_
              refine qw_ret [.bool false] rfl ⟨(by kernel_rfl), trivial⟩ ?_
              exact ⟨congrArg (fun b => Ending.returned (Value.bool b)) (show Orb.ok o = false by simp [Orb.ok, hb6, hb11, hb15, hb19, hc10, hc23]).symm, hE⟩
          ·
            refine pl_step rfl (by kernel_rfl) (by kernel_rfl) (by kernel_rfl) (sn_call (f := 45) (args := #[.int .i64 (o.hi : Int), .int .i64 0, .int .i64 23999]) (by kernel_rfl) ((orbit_in_r (r := false) o.hi 0 23999 _ (hb19)).mono ?_))
            rintro e w42 ⟨rfl, hb⟩
            replace hE := hE.trans hb
            replace hX5 := hX5.trans hb
            have hs43 := hb.size
            clear hb
            refine ⟨_, rfl, ?_⟩
            refine pl_take (.bool false) rfl (by kernel_rfl) (by kernel_rfl) (by kernel_rfl) (by kernel_rfl) ?_
            refine pl_take (.bool false) rfl (by kernel_rfl) (by kernel_rfl) (by kernel_rfl) (by kernel_rfl) ?_
            refine pl_skip rfl (by kernel_rfl) (by kernel_rfl) (by kernel_rfl) ?_
            refine pl_skip rfl (by kernel_rfl) (by kernel_rfl) (by kernel_rfl) ?_
            refine pl_skip rfl (by kernel_rfl) (by kernel_rfl) (by kernel_rfl) ?_
            refine pl_skip rfl (by kernel_rfl) (by kernel_rfl) (by kernel_rfl) ?_
            refine pl_skip rfl (by kernel_rfl) (by kernel_rfl) (by kernel_rfl) ?_
            refine pl_take (.bool false) rfl (by kernel_rfl) (by kernel_rfl) (by kernel_rfl) (by kernel_rfl) ?_
            refine pl_take (.bool false) rfl (by kernel_rfl) (by kernel_rfl) (by kernel_rfl) (by kernel_rfl) ?_
            refine pl_nil ?_
            refine qw_then ?_
            refine cw_clean [1, 3, 4] (ws' := [(1, .pointer (some ⟨O1, 0, none⟩)), (3, .bool true), (4, .bool false)]) (by kernel_rfl) (fun L => ?_)
            refine cw_seq ?_
            refine cw_plain ?_
            refine pl_take (.bool true) rfl (by kernel_rfl) (by kernel_rfl) (by kernel_rfl) (by kernel_rfl) ?_
            refine pl_take (.bool true) rfl (by kernel_rfl) (by kernel_rfl) (by kernel_rfl) (by kernel_rfl) ?_
            refine pl_take (.bool false) rfl (by kernel_rfl) (by kernel_rfl) (by kernel_rfl) (by kernel_rfl) ?_
            refine pl_take (.bool false) rfl (by kernel_rfl) (by kernel_rfl) (by kernel_rfl) (by kernel_rfl) ?_
            refine pl_take (.bool false) rfl (by kernel_rfl) (by kernel_rfl) (by kernel_rfl) (by kernel_rfl) ?_
            refine pl_skip rfl (by kernel_rfl) (by kernel_rfl) (by kernel_rfl) ?_
            refine pl_skip rfl (by kernel_rfl) (by kernel_rfl) (by kernel_rfl) ?_
            refine pl_skip rfl (by kernel_rfl) (by kernel_rfl) (by kernel_rfl) ?_
            refine pl_take (.bool false) rfl (by kernel_rfl) (by kernel_rfl) (by kernel_rfl) (by kernel_rfl) ?_
            refine pl_take (.bool false) rfl (by kernel_rfl) (by kernel_rfl) (by kernel_rfl) (by kernel_rfl) ?_
            refine pl_skip rfl (by kernel_rfl) (by kernel_rfl) (by kernel_rfl) ?_
            refine pl_skip rfl (by kernel_rfl) (by kernel_rfl) (by kernel_rfl) ?_
            refine pl_skip rfl (by kernel_rfl) (by kernel_rfl) (by kernel_rfl) ?_
            refine pl_take (.bool false) rfl (by kernel_rfl) (by kernel_rfl) (by kernel_rfl) (by kernel_rfl) ?_
            refine pl_take (.bool false) rfl (by kernel_rfl) (by kernel_rfl) (by kernel_rfl) (by kernel_rfl) ?_
            refine pl_skip rfl (by kernel_rfl) (by kernel_rfl) (by kernel_rfl) ?_
            refine pl_skip rfl (by kernel_rfl) (by kernel_rfl) (by kernel_rfl) ?_
            refine pl_skip rfl (by kernel_rfl) (by kernel_rfl) (by kernel_rfl) ?_
            refine pl_take (.bool false) rfl (by kernel_rfl) (by kernel_rfl) (by kernel_rfl) (by kernel_rfl) ?_
            refine pl_take (.bool false) rfl (by kernel_rfl) (by kernel_rfl) (by kernel_rfl) (by kernel_rfl) ?_
            refine pl_nil ?_
            refine qw_then ?_
            refine cw_clean [2] (ws' := [(2, .bool false)]) (by kernel_rfl) (fun L => ?_)
            refine cw_ret ?_
            refine qw_ret [.bool false] rfl ⟨(by kernel_rfl), trivial⟩ ?_
            exact ⟨congrArg (fun b => Ending.returned (Value.bool b)) (show Orb.ok o = false by simp [Orb.ok, hb6, hb11, hb15, hb19, hc10]).symm, hE⟩
        ·
          refine pl_step rfl (by kernel_rfl) (by kernel_rfl) (by kernel_rfl) (sn_call (f := 45) (args := #[.int .i64 (o.lo : Int), .int .i64 0, .int .i64 23999]) (by kernel_rfl) ((orbit_in_r (r := false) o.lo 0 23999 _ (hb15)).mono ?_))
          rintro e w44 ⟨rfl, hb⟩
          replace hE := hE.trans hb
          replace hX5 := hX5.trans hb
          have hs45 := hb.size
          clear hb
          refine ⟨_, rfl, ?_⟩
          refine pl_take (.bool false) rfl (by kernel_rfl) (by kernel_rfl) (by kernel_rfl) (by kernel_rfl) ?_
          refine pl_skip rfl (by kernel_rfl) (by kernel_rfl) (by kernel_rfl) ?_
          refine pl_skip rfl (by kernel_rfl) (by kernel_rfl) (by kernel_rfl) ?_
          refine pl_skip rfl (by kernel_rfl) (by kernel_rfl) (by kernel_rfl) ?_
          refine pl_take (.bool false) rfl (by kernel_rfl) (by kernel_rfl) (by kernel_rfl) (by kernel_rfl) ?_
          refine pl_take (.bool false) rfl (by kernel_rfl) (by kernel_rfl) (by kernel_rfl) (by kernel_rfl) ?_
          refine pl_skip rfl (by kernel_rfl) (by kernel_rfl) (by kernel_rfl) ?_
          refine pl_skip rfl (by kernel_rfl) (by kernel_rfl) (by kernel_rfl) ?_
          refine pl_skip rfl (by kernel_rfl) (by kernel_rfl) (by kernel_rfl) ?_
          refine pl_skip rfl (by kernel_rfl) (by kernel_rfl) (by kernel_rfl) ?_
          refine pl_skip rfl (by kernel_rfl) (by kernel_rfl) (by kernel_rfl) ?_
          refine pl_take (.bool false) rfl (by kernel_rfl) (by kernel_rfl) (by kernel_rfl) (by kernel_rfl) ?_
          refine pl_take (.bool false) rfl (by kernel_rfl) (by kernel_rfl) (by kernel_rfl) (by kernel_rfl) ?_
          refine pl_nil ?_
          refine qw_then ?_
          refine cw_clean [1, 3, 4] (ws' := [(1, .pointer (some ⟨O1, 0, none⟩)), (3, .bool true), (4, .bool false)]) (by kernel_rfl) (fun L => ?_)
          refine cw_seq ?_
          refine cw_plain ?_
          refine pl_take (.bool true) rfl (by kernel_rfl) (by kernel_rfl) (by kernel_rfl) (by kernel_rfl) ?_
          refine pl_take (.bool true) rfl (by kernel_rfl) (by kernel_rfl) (by kernel_rfl) (by kernel_rfl) ?_
          refine pl_take (.bool false) rfl (by kernel_rfl) (by kernel_rfl) (by kernel_rfl) (by kernel_rfl) ?_
          refine pl_take (.bool false) rfl (by kernel_rfl) (by kernel_rfl) (by kernel_rfl) (by kernel_rfl) ?_
          refine pl_take (.bool false) rfl (by kernel_rfl) (by kernel_rfl) (by kernel_rfl) (by kernel_rfl) ?_
          refine pl_skip rfl (by kernel_rfl) (by kernel_rfl) (by kernel_rfl) ?_
          refine pl_skip rfl (by kernel_rfl) (by kernel_rfl) (by kernel_rfl) ?_
          refine pl_skip rfl (by kernel_rfl) (by kernel_rfl) (by kernel_rfl) ?_
          refine pl_take (.bool false) rfl (by kernel_rfl) (by kernel_rfl) (by kernel_rfl) (by kernel_rfl) ?_
          refine pl_take (.bool false) rfl (by kernel_rfl) (by kernel_rfl) (by kernel_rfl) (by kernel_rfl) ?_
          refine pl_skip rfl (by kernel_rfl) (by kernel_rfl) (by kernel_rfl) ?_
          refine pl_skip rfl (by kernel_rfl) (by kernel_rfl) (by kernel_rfl) ?_
          refine pl_skip rfl (by kernel_rfl) (by kernel_rfl) (by kernel_rfl) ?_
          refine pl_take (.bool false) rfl (by kernel_rfl) (by kernel_rfl) (by kernel_rfl) (by kernel_rfl) ?_
          refine pl_take (.bool false) rfl (by kernel_rfl) (by kernel_rfl) (by kernel_rfl) (by kernel_rfl) ?_
          refine pl_skip rfl (by kernel_rfl) (by kernel_rfl) (by kernel_rfl) ?_
          refine pl_skip rfl (by kernel_rfl) (by kernel_rfl) (by kernel_rfl) ?_
          refine pl_skip rfl (by kernel_rfl) (by kernel_rfl) (by kernel_rfl) ?_
          refine pl_take (.bool false) rfl (by kernel_rfl) (by kernel_rfl) (by kernel_rfl) (by kernel_rfl) ?_
          refine pl_take (.bool false) rfl (by kernel_rfl) (by kernel_rfl) (by kernel_rfl) (by kernel_rfl) ?_
          refine pl_nil ?_
          refine qw_then ?_
          refine cw_clean [2] (ws' := [(2, .bool false)]) (by kernel_rfl) (fun L => ?_)
          refine cw_ret ?_
          refine qw_ret [.bool false] rfl ⟨(by kernel_rfl), trivial⟩ ?_
          exact ⟨congrArg (fun b => Ending.returned (Value.bool b)) (show Orb.ok o = false by simp [Orb.ok, hb6, hb11, hb15, hc10]).symm, hE⟩
      ·
        refine pl_step rfl (by kernel_rfl) (by kernel_rfl) (by kernel_rfl) (sn_call (f := 45) (args := #[.int .i64 (o.f : Int), .int .i64 0, .int .i64 (o.p - 1 : Int)]) (by kernel_rfl) ((orbit_in_r (r := false) o.f 0 (o.p - 1) _ (hb11)).mono ?_))
        rintro e w46 ⟨rfl, hb⟩
        replace hE := hE.trans hb
        replace hX5 := hX5.trans hb
        have hs47 := hb.size
        clear hb
        refine ⟨_, rfl, ?_⟩
        refine pl_take (.bool false) rfl (by kernel_rfl) (by kernel_rfl) (by kernel_rfl) (by kernel_rfl) ?_
        refine pl_take (.bool false) rfl (by kernel_rfl) (by kernel_rfl) (by kernel_rfl) (by kernel_rfl) ?_
        refine pl_nil ?_
        refine qw_then ?_
        refine cw_clean [1, 3] (ws' := [(1, .pointer (some ⟨O1, 0, none⟩)), (3, .bool false)]) (by kernel_rfl) (fun L => ?_)
        refine cw_seq ?_
        refine cw_plain ?_
        refine pl_take (.pointer (some ⟨O1, 2, none⟩)) rfl (by kernel_rfl) (by kernel_rfl) (by kernel_rfl) (by kernel_rfl) ?_
        refine pl_take (.int .i64 (o.lo : Int)) rfl (by kernel_rfl) (by kernel_rfl) (by kernel_rfl) (ex_load rfl (by kernel_rfl) (ld3 ((BoxAt.ext hX5 bO1_2).1))) ?_
        rcases Bool.eq_false_or_eq_true (Globe.inB o.lo 0 23999) with hb48 | hb48
        ·
          have hq49 := Globe.inB_t.1 hb48
          refine pl_step rfl (by kernel_rfl) (by kernel_rfl) (by kernel_rfl) (sn_call (f := 45) (args := #[.int .i64 (o.lo : Int), .int .i64 0, .int .i64 23999]) (by kernel_rfl) ((orbit_in_r (r := true) o.lo 0 23999 _ (hb48)).mono ?_))
          rintro e w50 ⟨rfl, hb⟩
          replace hE := hE.trans hb
          replace hX5 := hX5.trans hb
          have hs51 := hb.size
          clear hb
          refine ⟨_, rfl, ?_⟩
          refine pl_take (.bool true) rfl (by kernel_rfl) (by kernel_rfl) (by kernel_rfl) (by kernel_rfl) ?_
          refine pl_take (.pointer (some ⟨O1, 3, none⟩)) rfl (by kernel_rfl) (by kernel_rfl) (by kernel_rfl) (by kernel_rfl) ?_
          refine pl_take (.int .i64 (o.hi : Int)) rfl (by kernel_rfl) (by kernel_rfl) (by kernel_rfl) (ex_load rfl (by kernel_rfl) (ld3 ((BoxAt.ext hX5 bO1_3).1))) ?_
          rcases Bool.eq_false_or_eq_true (Globe.inB o.hi 0 23999) with hb52 | hb52
          ·
            have hq53 := Globe.inB_t.1 hb52
            refine pl_step rfl (by kernel_rfl) (by kernel_rfl) (by kernel_rfl) (sn_call (f := 45) (args := #[.int .i64 (o.hi : Int), .int .i64 0, .int .i64 23999]) (by kernel_rfl) ((orbit_in_r (r := true) o.hi 0 23999 _ (hb52)).mono ?_))
            rintro e w54 ⟨rfl, hb⟩
            replace hE := hE.trans hb
            replace hX5 := hX5.trans hb
            have hs55 := hb.size
            clear hb
            refine ⟨_, rfl, ?_⟩
            refine pl_take (.bool true) rfl (by kernel_rfl) (by kernel_rfl) (by kernel_rfl) (by kernel_rfl) ?_
            refine pl_take (.bool true) rfl (by kernel_rfl) (by kernel_rfl) (by kernel_rfl) (by kernel_rfl) ?_
            refine pl_take (.pointer (some ⟨O1, 2, none⟩)) rfl (by kernel_rfl) (by kernel_rfl) (by kernel_rfl) (by kernel_rfl) ?_
            refine pl_take (.int .i64 (o.lo : Int)) rfl (by kernel_rfl) (by kernel_rfl) (by kernel_rfl) (ex_load rfl (by kernel_rfl) (ld3 ((BoxAt.ext hX5 bO1_2).1))) ?_
            refine pl_take (.pointer (some ⟨O1, 3, none⟩)) rfl (by kernel_rfl) (by kernel_rfl) (by kernel_rfl) (by kernel_rfl) ?_
            refine pl_take (.int .i64 (o.hi : Int)) rfl (by kernel_rfl) (by kernel_rfl) (by kernel_rfl) (ex_load rfl (by kernel_rfl) (ld3 ((BoxAt.ext hX5 bO1_3).1))) ?_
            by_cases hc56 : (o.lo : Int) < (o.hi : Int)
            ·
              refine pl_take (.bool true) rfl (by kernel_rfl) (by kernel_rfl) (by kernel_rfl) (ev_dec (show _ = Result.ok (Next.value (Value.bool (decide ((o.lo : Int) < (o.hi : Int))))) _ from by kernel_rfl) (hc56)) ?_
              refine pl_take (.bool true) rfl (by kernel_rfl) (by kernel_rfl) (by kernel_rfl) (by kernel_rfl) ?_
              refine pl_take (.bool true) rfl (by kernel_rfl) (by kernel_rfl) (by kernel_rfl) (by kernel_rfl) ?_
              refine pl_nil ?_
              refine qw_then ?_
              refine cw_clean [1, 3, 4] (ws' := [(1, .pointer (some ⟨O1, 0, none⟩)), (3, .bool false), (4, .bool true)]) (by kernel_rfl) (fun L => ?_)
              refine cw_seq ?_
              refine cw_plain ?_
              refine pl_take (.bool false) rfl (by kernel_rfl) (by kernel_rfl) (by kernel_rfl) (by kernel_rfl) ?_
              refine pl_take (.bool false) rfl (by kernel_rfl) (by kernel_rfl) (by kernel_rfl) (by kernel_rfl) ?_
              refine pl_skip rfl (by kernel_rfl) (by kernel_rfl) (by kernel_rfl) ?_
              refine pl_take (.bool false) rfl (by kernel_rfl) (by kernel_rfl) (by kernel_rfl) (by kernel_rfl) ?_
              refine pl_take (.bool false) rfl (by kernel_rfl) (by kernel_rfl) (by kernel_rfl) (by kernel_rfl) ?_
              refine pl_skip rfl (by kernel_rfl) (by kernel_rfl) (by kernel_rfl) ?_
              refine pl_skip rfl (by kernel_rfl) (by kernel_rfl) (by kernel_rfl) ?_
              refine pl_skip rfl (by kernel_rfl) (by kernel_rfl) (by kernel_rfl) ?_
              refine pl_take (.bool false) rfl (by kernel_rfl) (by kernel_rfl) (by kernel_rfl) (by kernel_rfl) ?_
              refine pl_take (.bool false) rfl (by kernel_rfl) (by kernel_rfl) (by kernel_rfl) (by kernel_rfl) ?_
              refine pl_skip rfl (by kernel_rfl) (by kernel_rfl) (by kernel_rfl) ?_
              refine pl_skip rfl (by kernel_rfl) (by kernel_rfl) (by kernel_rfl) ?_
              refine pl_skip rfl (by kernel_rfl) (by kernel_rfl) (by kernel_rfl) ?_
              refine pl_take (.bool false) rfl (by kernel_rfl) (by kernel_rfl) (by kernel_rfl) (by kernel_rfl) ?_
              refine pl_take (.bool false) rfl (by kernel_rfl) (by kernel_rfl) (by kernel_rfl) (by kernel_rfl) ?_
              refine pl_skip rfl (by kernel_rfl) (by kernel_rfl) (by kernel_rfl) ?_
              refine pl_skip rfl (by kernel_rfl) (by kernel_rfl) (by kernel_rfl) ?_
              refine pl_skip rfl (by kernel_rfl) (by kernel_rfl) (by kernel_rfl) ?_
              refine pl_take (.bool false) rfl (by kernel_rfl) (by kernel_rfl) (by kernel_rfl) (by kernel_rfl) ?_
              refine pl_take (.bool false) rfl (by kernel_rfl) (by kernel_rfl) (by kernel_rfl) (by kernel_rfl) ?_
              refine pl_nil ?_
              refine qw_then ?_
              refine cw_clean [2] (ws' := [(2, .bool false)]) (by kernel_rfl) (fun L => ?_)
              refine cw_ret ?_
              refine qw_ret [.bool false] rfl ⟨(by kernel_rfl), trivial⟩ ?_
              exact ⟨congrArg (fun b => Ending.returned (Value.bool b)) (show Orb.ok o = false by simp [Orb.ok, hb6, hb11, hb48, hb52, hc10, hc56]).symm, hE⟩
            ·
              refine pl_take (.bool false) rfl (by kernel_rfl) (by kernel_rfl) (by kernel_rfl) (ev_ndec (show _ = Result.ok (Next.value (Value.bool (decide ((o.lo : Int) < (o.hi : Int))))) _ from by kernel_rfl) (hc56)) ?_
              refine pl_take (.bool false) rfl (by kernel_rfl) (by kernel_rfl) (by kernel_rfl) (by kernel_rfl) ?_
              refine pl_take (.bool false) rfl (by kernel_rfl) (by kernel_rfl) (by kernel_rfl) (by kernel_rfl) ?_
              refine pl_nil ?_
              refine qw_then ?_
              refine cw_clean [1, 3, 4] (ws' := [(1, .pointer (some ⟨O1, 0, none⟩)), (3, .bool false), (4, .bool false)]) (by kernel_rfl) (fun L => ?_)
              refine cw_seq ?_
              refine cw_plain ?_
              refine pl_take (.bool false) rfl (by kernel_rfl) (by kernel_rfl) (by kernel_rfl) (by kernel_rfl) ?_
              refine pl_take (.bool false) rfl (by kernel_rfl) (by kernel_rfl) (by kernel_rfl) (by kernel_rfl) ?_
              refine pl_skip rfl (by kernel_rfl) (by kernel_rfl) (by kernel_rfl) ?_
              refine pl_take (.bool false) rfl (by kernel_rfl) (by kernel_rfl) (by kernel_rfl) (by kernel_rfl) ?_
              refine pl_take (.bool false) rfl (by kernel_rfl) (by kernel_rfl) (by kernel_rfl) (by kernel_rfl) ?_
              refine pl_skip rfl (by kernel_rfl) (by kernel_rfl) (by kernel_rfl) ?_
              refine pl_skip rfl (by kernel_rfl) (by kernel_rfl) (by kernel_rfl) ?_
              refine pl_skip rfl (by kernel_rfl) (by kernel_rfl) (by kernel_rfl) ?_
              refine pl_take (.bool false) rfl (by kernel_rfl) (by kernel_rfl) (by kernel_rfl) (by kernel_rfl) ?_
              refine pl_take (.bool false) rfl (by kernel_rfl) (by kernel_rfl) (by kernel_rfl) (by kernel_rfl) ?_
              refine pl_skip rfl (by kernel_rfl) (by kernel_rfl) (by kernel_rfl) ?_
              refine pl_skip rfl (by kernel_rfl) (by kernel_rfl) (by kernel_rfl) ?_
              refine pl_skip rfl (by kernel_rfl) (by kernel_rfl) (by kernel_rfl) ?_
              refine pl_take (.bool false) rfl (by kernel_rfl) (by kernel_rfl) (by kernel_rfl) (by kernel_rfl) ?_
              refine pl_take (.bool false) rfl (by kernel_rfl) (by kernel_rfl) (by kernel_rfl) (by kernel_rfl) ?_
              refine pl_skip rfl (by kernel_rfl) (by kernel_rfl) (by kernel_rfl) ?_
              refine pl_skip rfl (by kernel_rfl) (by kernel_rfl) (by kernel_rfl) ?_
              refine pl_skip rfl (by kernel_rfl) (by kernel_rfl) (by kernel_rfl) ?_
              refine pl_take (.bool false) rfl (by kernel_rfl) (by kernel_rfl) (by kernel_rfl) (by kernel_rfl) ?_
              refine pl_take (.bool false) rfl (by kernel_rfl) (by kernel_rfl) (by kernel_rfl) (by kernel_rfl) ?_
              refine pl_nil ?_
              refine qw_then ?_
              refine cw_clean [2] (ws' := [(2, .bool false)]) (by kernel_rfl) (fun L => ?_)
              refine cw_ret ?_
              refine qw_ret [.bool false] rfl ⟨(by kernel_rfl), trivial⟩ ?_
              exact ⟨congrArg (fun b => Ending.returned (Value.bool b)) (show Orb.ok o = false by simp [Orb.ok, hb6, hb11, hb48, hb52, hc10, hc56]).symm, hE⟩
          ·
            refine pl_step rfl (by kernel_rfl) (by kernel_rfl) (by kernel_rfl) (sn_call (f := 45) (args := #[.int .i64 (o.hi : Int), .int .i64 0, .int .i64 23999]) (by kernel_rfl) ((orbit_in_r (r := false) o.hi 0 23999 _ (hb52)).mono ?_))
            rintro e w57 ⟨rfl, hb⟩
            replace hE := hE.trans hb
            replace hX5 := hX5.trans hb
            have hs58 := hb.size
            clear hb
            refine ⟨_, rfl, ?_⟩
            refine pl_take (.bool false) rfl (by kernel_rfl) (by kernel_rfl) (by kernel_rfl) (by kernel_rfl) ?_
            refine pl_take (.bool false) rfl (by kernel_rfl) (by kernel_rfl) (by kernel_rfl) (by kernel_rfl) ?_
            refine pl_skip rfl (by kernel_rfl) (by kernel_rfl) (by kernel_rfl) ?_
            refine pl_skip rfl (by kernel_rfl) (by kernel_rfl) (by kernel_rfl) ?_
            refine pl_skip rfl (by kernel_rfl) (by kernel_rfl) (by kernel_rfl) ?_
            refine pl_skip rfl (by kernel_rfl) (by kernel_rfl) (by kernel_rfl) ?_
            refine pl_skip rfl (by kernel_rfl) (by kernel_rfl) (by kernel_rfl) ?_
            refine pl_take (.bool false) rfl (by kernel_rfl) (by kernel_rfl) (by kernel_rfl) (by kernel_rfl) ?_
            refine pl_take (.bool false) rfl (by kernel_rfl) (by kernel_rfl) (by kernel_rfl) (by kernel_rfl) ?_
            refine pl_nil ?_
            refine qw_then ?_
            refine cw_clean [1, 3, 4] (ws' := [(1, .pointer (some ⟨O1, 0, none⟩)), (3, .bool false), (4, .bool false)]) (by kernel_rfl) (fun L => ?_)
            refine cw_seq ?_
            refine cw_plain ?_
            refine pl_take (.bool false) rfl (by kernel_rfl) (by kernel_rfl) (by kernel_rfl) (by kernel_rfl) ?_
            refine pl_take (.bool false) rfl (by kernel_rfl) (by kernel_rfl) (by kernel_rfl) (by kernel_rfl) ?_
            refine pl_skip rfl (by kernel_rfl) (by kernel_rfl) (by kernel_rfl) ?_
            refine pl_take (.bool false) rfl (by kernel_rfl) (by kernel_rfl) (by kernel_rfl) (by kernel_rfl) ?_
            refine pl_take (.bool false) rfl (by kernel_rfl) (by kernel_rfl) (by kernel_rfl) (by kernel_rfl) ?_
            refine pl_skip rfl (by kernel_rfl) (by kernel_rfl) (by kernel_rfl) ?_
            refine pl_skip rfl (by kernel_rfl) (by kernel_rfl) (by kernel_rfl) ?_
            refine pl_skip rfl (by kernel_rfl) (by kernel_rfl) (by kernel_rfl) ?_
            refine pl_take (.bool false) rfl (by kernel_rfl) (by kernel_rfl) (by kernel_rfl) (by kernel_rfl) ?_
            refine pl_take (.bool false) rfl (by kernel_rfl) (by kernel_rfl) (by kernel_rfl) (by kernel_rfl) ?_
            refine pl_skip rfl (by kernel_rfl) (by kernel_rfl) (by kernel_rfl) ?_
            refine pl_skip rfl (by kernel_rfl) (by kernel_rfl) (by kernel_rfl) ?_
            refine pl_skip rfl (by kernel_rfl) (by kernel_rfl) (by kernel_rfl) ?_
            refine pl_take (.bool false) rfl (by kernel_rfl) (by kernel_rfl) (by kernel_rfl) (by kernel_rfl) ?_
            refine pl_take (.bool false) rfl (by kernel_rfl) (by kernel_rfl) (by kernel_rfl) (by kernel_rfl) ?_
            refine pl_skip rfl (by kernel_rfl) (by kernel_rfl) (by kernel_rfl) ?_
            refine pl_skip rfl (by kernel_rfl) (by kernel_rfl) (by kernel_rfl) ?_
            refine pl_skip rfl (by kernel_rfl) (by kernel_rfl) (by kernel_rfl) ?_
            refine pl_take (.bool false) rfl (by kernel_rfl) (by kernel_rfl) (by kernel_rfl) (by kernel_rfl) ?_
            refine pl_take (.bool false) rfl (by kernel_rfl) (by kernel_rfl) (by kernel_rfl) (by kernel_rfl) ?_
            refine pl_nil ?_
            refine qw_then ?_
            refine cw_clean [2] (ws' := [(2, .bool false)]) (by kernel_rfl) (fun L => ?_)
            refine cw_ret ?_
            refine qw_ret [.bool false] rfl ⟨(by kernel_rfl), trivial⟩ ?_
            exact ⟨congrArg (fun b => Ending.returned (Value.bool b)) (show Orb.ok o = false by simp [Orb.ok, hb6, hb11, hb48, hb52, hc10]).symm, hE⟩
        ·
          refine pl_step rfl (by kernel_rfl) (by kernel_rfl) (by kernel_rfl) (sn_call (f := 45) (args := #[.int .i64 (o.lo : Int), .int .i64 0, .int .i64 23999]) (by kernel_rfl) ((orbit_in_r (r := false) o.lo 0 23999 _ (hb48)).mono ?_))
          rintro e w59 ⟨rfl, hb⟩
          replace hE := hE.trans hb
          replace hX5 := hX5.trans hb
          have hs60 := hb.size
          clear hb
          refine ⟨_, rfl, ?_⟩
          refine pl_take (.bool false) rfl (by kernel_rfl) (by kernel_rfl) (by kernel_rfl) (by kernel_rfl) ?_
          refine pl_skip rfl (by kernel_rfl) (by kernel_rfl) (by kernel_rfl) ?_
          refine pl_skip rfl (by kernel_rfl) (by kernel_rfl) (by kernel_rfl) ?_
          refine pl_skip rfl (by kernel_rfl) (by kernel_rfl) (by kernel_rfl) ?_
          refine pl_take (.bool false) rfl (by kernel_rfl) (by kernel_rfl) (by kernel_rfl) (by kernel_rfl) ?_
          refine pl_take (.bool false) rfl (by kernel_rfl) (by kernel_rfl) (by kernel_rfl) (by kernel_rfl) ?_
          refine pl_skip rfl (by kernel_rfl) (by kernel_rfl) (by kernel_rfl) ?_
          refine pl_skip rfl (by kernel_rfl) (by kernel_rfl) (by kernel_rfl) ?_
          refine pl_skip rfl (by kernel_rfl) (by kernel_rfl) (by kernel_rfl) ?_
          refine pl_skip rfl (by kernel_rfl) (by kernel_rfl) (by kernel_rfl) ?_
          refine pl_skip rfl (by kernel_rfl) (by kernel_rfl) (by kernel_rfl) ?_
          refine pl_take (.bool false) rfl (by kernel_rfl) (by kernel_rfl) (by kernel_rfl) (by kernel_rfl) ?_
          refine pl_take (.bool false) rfl (by kernel_rfl) (by kernel_rfl) (by kernel_rfl) (by kernel_rfl) ?_
          refine pl_nil ?_
          refine qw_then ?_
          refine cw_clean [1, 3, 4] (ws' := [(1, .pointer (some ⟨O1, 0, none⟩)), (3, .bool false), (4, .bool false)]) (by kernel_rfl) (fun L => ?_)
          refine cw_seq ?_
          refine cw_plain ?_
          refine pl_take (.bool false) rfl (by kernel_rfl) (by kernel_rfl) (by kernel_rfl) (by kernel_rfl) ?_
          refine pl_take (.bool false) rfl (by kernel_rfl) (by kernel_rfl) (by kernel_rfl) (by kernel_rfl) ?_
          refine pl_skip rfl (by kernel_rfl) (by kernel_rfl) (by kernel_rfl) ?_
          refine pl_take (.bool false) rfl (by kernel_rfl) (by kernel_rfl) (by kernel_rfl) (by kernel_rfl) ?_
          refine pl_take (.bool false) rfl (by kernel_rfl) (by kernel_rfl) (by kernel_rfl) (by kernel_rfl) ?_
          refine pl_skip rfl (by kernel_rfl) (by kernel_rfl) (by kernel_rfl) ?_
          refine pl_skip rfl (by kernel_rfl) (by kernel_rfl) (by kernel_rfl) ?_
          refine pl_skip rfl (by kernel_rfl) (by kernel_rfl) (by kernel_rfl) ?_
          refine pl_take (.bool false) rfl (by kernel_rfl) (by kernel_rfl) (by kernel_rfl) (by kernel_rfl) ?_
          refine pl_take (.bool false) rfl (by kernel_rfl) (by kernel_rfl) (by kernel_rfl) (by kernel_rfl) ?_
          refine pl_skip rfl (by kernel_rfl) (by kernel_rfl) (by kernel_rfl) ?_
          refine pl_skip rfl (by kernel_rfl) (by kernel_rfl) (by kernel_rfl) ?_
          refine pl_skip rfl (by kernel_rfl) (by kernel_rfl) (by kernel_rfl) ?_
          refine pl_take (.bool false) rfl (by kernel_rfl) (by kernel_rfl) (by kernel_rfl) (by kernel_rfl) ?_
          refine pl_take (.bool false) rfl (by kernel_rfl) (by kernel_rfl) (by kernel_rfl) (by kernel_rfl) ?_
          refine pl_skip rfl (by kernel_rfl) (by kernel_rfl) (by kernel_rfl) ?_
          refine pl_skip rfl (by kernel_rfl) (by kernel_rfl) (by kernel_rfl) ?_
          refine pl_skip rfl (by kernel_rfl) (by kernel_rfl) (by kernel_rfl) ?_
          refine pl_take (.bool false) rfl (by kernel_rfl) (by kernel_rfl) (by kernel_rfl) (by kernel_rfl) ?_
          refine pl_take (.bool false) rfl (by kernel_rfl) (by kernel_rfl) (by kernel_rfl) (by kernel_rfl) ?_
          refine pl_nil ?_
          refine qw_then ?_
          refine cw_clean [2] (ws' := [(2, .bool false)]) (by kernel_rfl) (fun L => ?_)
          refine cw_ret ?_
          refine qw_ret [.bool false] rfl ⟨(by kernel_rfl), trivial⟩ ?_
          exact ⟨congrArg (fun b => Ending.returned (Value.bool b)) (show Orb.ok o = false by simp [Orb.ok, hb6, hb11, hb48, hc10]).symm, hE⟩
    ·
      refine pl_take (.bool false) rfl (by kernel_rfl) (by kernel_rfl) (by kernel_rfl) (ev_neq (show _ = Result.ok (Next.value (Value.bool (((o.p : Int).tmod 2 : Int) == (0 : Int)))) _ from by kernel_rfl) (hc10)) ?_
      refine pl_take (.bool false) rfl (by kernel_rfl) (by kernel_rfl) (by kernel_rfl) (by kernel_rfl) ?_
      refine pl_take (.bool false) rfl (by kernel_rfl) (by kernel_rfl) (by kernel_rfl) (by kernel_rfl) ?_
      refine pl_skip rfl (by kernel_rfl) (by kernel_rfl) (by kernel_rfl) ?_
      refine pl_skip rfl (by kernel_rfl) (by kernel_rfl) (by kernel_rfl) ?_
      refine pl_skip rfl (by kernel_rfl) (by kernel_rfl) (by kernel_rfl) ?_
      refine pl_skip rfl (by kernel_rfl) (by kernel_rfl) (by kernel_rfl) ?_
      refine pl_skip rfl (by kernel_rfl) (by kernel_rfl) (by kernel_rfl) ?_
      refine pl_skip rfl (by kernel_rfl) (by kernel_rfl) (by kernel_rfl) ?_
      refine pl_take (.bool false) rfl (by kernel_rfl) (by kernel_rfl) (by kernel_rfl) (by kernel_rfl) ?_
      refine pl_take (.bool false) rfl (by kernel_rfl) (by kernel_rfl) (by kernel_rfl) (by kernel_rfl) ?_
      refine pl_nil ?_
      refine qw_then ?_
      refine cw_clean [1, 3] (ws' := [(1, .pointer (some ⟨O1, 0, none⟩)), (3, .bool false)]) (by kernel_rfl) (fun L => ?_)
      refine cw_seq ?_
      refine cw_plain ?_
      refine pl_take (.pointer (some ⟨O1, 2, none⟩)) rfl (by kernel_rfl) (by kernel_rfl) (by kernel_rfl) (by kernel_rfl) ?_
      refine pl_take (.int .i64 (o.lo : Int)) rfl (by kernel_rfl) (by kernel_rfl) (by kernel_rfl) (ex_load rfl (by kernel_rfl) (ld3 ((BoxAt.ext hX5 bO1_2).1))) ?_
      rcases Bool.eq_false_or_eq_true (Globe.inB o.lo 0 23999) with hb61 | hb61
      ·
        have hq62 := Globe.inB_t.1 hb61
        refine pl_step rfl (by kernel_rfl) (by kernel_rfl) (by kernel_rfl) (sn_call (f := 45) (args := #[.int .i64 (o.lo : Int), .int .i64 0, .int .i64 23999]) (by kernel_rfl) ((orbit_in_r (r := true) o.lo 0 23999 _ (hb61)).mono ?_))
        rintro e w63 ⟨rfl, hb⟩
        replace hE := hE.trans hb
        replace hX5 := hX5.trans hb
        have hs64 := hb.size
        clear hb
        refine ⟨_, rfl, ?_⟩
        refine pl_take (.bool true) rfl (by kernel_rfl) (by kernel_rfl) (by kernel_rfl) (by kernel_rfl) ?_
        refine pl_take (.pointer (some ⟨O1, 3, none⟩)) rfl (by kernel_rfl) (by kernel_rfl) (by kernel_rfl) (by kernel_rfl) ?_
        refine pl_take (.int .i64 (o.hi : Int)) rfl (by kernel_rfl) (by kernel_rfl) (by kernel_rfl) (ex_load rfl (by kernel_rfl) (ld3 ((BoxAt.ext hX5 bO1_3).1))) ?_
        rcases Bool.eq_false_or_eq_true (Globe.inB o.hi 0 23999) with hb65 | hb65
        ·
          have hq66 := Globe.inB_t.1 hb65
          refine pl_step rfl (by kernel_rfl) (by kernel_rfl) (by kernel_rfl) (sn_call (f := 45) (args := #[.int .i64 (o.hi : Int), .int .i64 0, .int .i64 23999]) (by kernel_rfl) ((orbit_in_r (r := true) o.hi 0 23999 _ (hb65)).mono ?_))
          rintro e w67 ⟨rfl, hb⟩
          replace hE := hE.trans hb
          replace hX5 := hX5.trans hb
          have hs68 := hb.size
          clear hb
          refine ⟨_, rfl, ?_⟩
          refine pl_take (.bool true) rfl (by kernel_rfl) (by kernel_rfl) (by kernel_rfl) (by kernel_rfl) ?_
          refine pl_take (.bool true) rfl (by kernel_rfl) (by kernel_rfl) (by kernel_rfl) (by kernel_rfl) ?_
          refine pl_take (.pointer (some ⟨O1, 2, none⟩)) rfl (by kernel_rfl) (by kernel_rfl) (by kernel_rfl) (by kernel_rfl) ?_
          refine pl_take (.int .i64 (o.lo : Int)) rfl (by kernel_rfl) (by kernel_rfl) (by kernel_rfl) (ex_load rfl (by kernel_rfl) (ld3 ((BoxAt.ext hX5 bO1_2).1))) ?_
          refine pl_take (.pointer (some ⟨O1, 3, none⟩)) rfl (by kernel_rfl) (by kernel_rfl) (by kernel_rfl) (by kernel_rfl) ?_
          refine pl_take (.int .i64 (o.hi : Int)) rfl (by kernel_rfl) (by kernel_rfl) (by kernel_rfl) (ex_load rfl (by kernel_rfl) (ld3 ((BoxAt.ext hX5 bO1_3).1))) ?_
          by_cases hc69 : (o.lo : Int) < (o.hi : Int)
          ·
            refine pl_take (.bool true) rfl (by kernel_rfl) (by kernel_rfl) (by kernel_rfl) (ev_dec (show _ = Result.ok (Next.value (Value.bool (decide ((o.lo : Int) < (o.hi : Int))))) _ from by kernel_rfl) (hc69)) ?_
            refine pl_take (.bool true) rfl (by kernel_rfl) (by kernel_rfl) (by kernel_rfl) (by kernel_rfl) ?_
            refine pl_take (.bool true) rfl (by kernel_rfl) (by kernel_rfl) (by kernel_rfl) (by kernel_rfl) ?_
            refine pl_nil ?_
            refine qw_then ?_
            refine cw_clean [1, 3, 4] (ws' := [(1, .pointer (some ⟨O1, 0, none⟩)), (3, .bool false), (4, .bool true)]) (by kernel_rfl) (fun L => ?_)
            refine cw_seq ?_
            refine cw_plain ?_
            refine pl_take (.bool false) rfl (by kernel_rfl) (by kernel_rfl) (by kernel_rfl) (by kernel_rfl) ?_
            refine pl_take (.bool false) rfl (by kernel_rfl) (by kernel_rfl) (by kernel_rfl) (by kernel_rfl) ?_
            refine pl_skip rfl (by kernel_rfl) (by kernel_rfl) (by kernel_rfl) ?_
            refine pl_take (.bool false) rfl (by kernel_rfl) (by kernel_rfl) (by kernel_rfl) (by kernel_rfl) ?_
            refine pl_take (.bool false) rfl (by kernel_rfl) (by kernel_rfl) (by kernel_rfl) (by kernel_rfl) ?_
            refine pl_skip rfl (by kernel_rfl) (by kernel_rfl) (by kernel_rfl) ?_
            refine pl_skip rfl (by kernel_rfl) (by kernel_rfl) (by kernel_rfl) ?_
            refine pl_skip rfl (by kernel_rfl) (by kernel_rfl) (by kernel_rfl) ?_
            refine pl_take (.bool false) rfl (by kernel_rfl) (by kernel_rfl) (by kernel_rfl) (by kernel_rfl) ?_
            refine pl_take (.bool false) rfl (by kernel_rfl) (by kernel_rfl) (by kernel_rfl) (by kernel_rfl) ?_
            refine pl_skip rfl (by kernel_rfl) (by kernel_rfl) (by kernel_rfl) ?_
            refine pl_skip rfl (by kernel_rfl) (by kernel_rfl) (by kernel_rfl) ?_
            refine pl_skip rfl (by kernel_rfl) (by kernel_rfl) (by kernel_rfl) ?_
            refine pl_take (.bool false) rfl (by kernel_rfl) (by kernel_rfl) (by kernel_rfl) (by kernel_rfl) ?_
            refine pl_take (.bool false) rfl (by kernel_rfl) (by kernel_rfl) (by kernel_rfl) (by kernel_rfl) ?_
            refine pl_skip rfl (by kernel_rfl) (by kernel_rfl) (by kernel_rfl) ?_
            refine pl_skip rfl (by kernel_rfl) (by kernel_rfl) (by kernel_rfl) ?_
            refine pl_skip rfl (by kernel_rfl) (by kernel_rfl) (by kernel_rfl) ?_
            refine pl_take (.bool false) rfl (by kernel_rfl) (by kernel_rfl) (by kernel_rfl) (by kernel_rfl) ?_
            refine pl_take (.bool false) rfl (by kernel_rfl) (by kernel_rfl) (by kernel_rfl) (by kernel_rfl) ?_
            refine pl_nil ?_
            refine qw_then ?_
            refine cw_clean [2] (ws' := [(2, .bool false)]) (by kernel_rfl) (fun L => ?_)
            refine cw_ret ?_
            refine qw_ret [.bool false] rfl ⟨(by kernel_rfl), trivial⟩ ?_
            exact ⟨congrArg (fun b => Ending.returned (Value.bool b)) (show Orb.ok o = false by simp [Orb.ok, hb6, hb61, hb65, hc10, hc69]).symm, hE⟩
          ·
            refine pl_take (.bool false) rfl (by kernel_rfl) (by kernel_rfl) (by kernel_rfl) (ev_ndec (show _ = Result.ok (Next.value (Value.bool (decide ((o.lo : Int) < (o.hi : Int))))) _ from by kernel_rfl) (hc69)) ?_
            refine pl_take (.bool false) rfl (by kernel_rfl) (by kernel_rfl) (by kernel_rfl) (by kernel_rfl) ?_
            refine pl_take (.bool false) rfl (by kernel_rfl) (by kernel_rfl) (by kernel_rfl) (by kernel_rfl) ?_
            refine pl_nil ?_
            refine qw_then ?_
            refine cw_clean [1, 3, 4] (ws' := [(1, .pointer (some ⟨O1, 0, none⟩)), (3, .bool false), (4, .bool false)]) (by kernel_rfl) (fun L => ?_)
            refine cw_seq ?_
            refine cw_plain ?_
            refine pl_take (.bool false) rfl (by kernel_rfl) (by kernel_rfl) (by kernel_rfl) (by kernel_rfl) ?_
            refine pl_take (.bool false) rfl (by kernel_rfl) (by kernel_rfl) (by kernel_rfl) (by kernel_rfl) ?_
            refine pl_skip rfl (by kernel_rfl) (by kernel_rfl) (by kernel_rfl) ?_
            refine pl_take (.bool false) rfl (by kernel_rfl) (by kernel_rfl) (by kernel_rfl) (by kernel_rfl) ?_
            refine pl_take (.bool false) rfl (by kernel_rfl) (by kernel_rfl) (by kernel_rfl) (by kernel_rfl) ?_
            refine pl_skip rfl (by kernel_rfl) (by kernel_rfl) (by kernel_rfl) ?_
            refine pl_skip rfl (by kernel_rfl) (by kernel_rfl) (by kernel_rfl) ?_
            refine pl_skip rfl (by kernel_rfl) (by kernel_rfl) (by kernel_rfl) ?_
            refine pl_take (.bool false) rfl (by kernel_rfl) (by kernel_rfl) (by kernel_rfl) (by kernel_rfl) ?_
            refine pl_take (.bool false) rfl (by kernel_rfl) (by kernel_rfl) (by kernel_rfl) (by kernel_rfl) ?_
            refine pl_skip rfl (by kernel_rfl) (by kernel_rfl) (by kernel_rfl) ?_
            refine pl_skip rfl (by kernel_rfl) (by kernel_rfl) (by kernel_rfl) ?_
            refine pl_skip rfl (by kernel_rfl) (by kernel_rfl) (by kernel_rfl) ?_
            refine pl_take (.bool false) rfl (by kernel_rfl) (by kernel_rfl) (by kernel_rfl) (by kernel_rfl) ?_
            refine pl_take (.bool false) rfl (by kernel_rfl) (by kernel_rfl) (by kernel_rfl) (by kernel_rfl) ?_
            refine pl_skip rfl (by kernel_rfl) (by kernel_rfl) (by kernel_rfl) ?_
            refine pl_skip rfl (by kernel_rfl) (by kernel_rfl) (by kernel_rfl) ?_
            refine pl_skip rfl (by kernel_rfl) (by kernel_rfl) (by kernel_rfl) ?_
            refine pl_take (.bool false) rfl (by kernel_rfl) (by kernel_rfl) (by kernel_rfl) (by kernel_rfl) ?_
            refine pl_take (.bool false) rfl (by kernel_rfl) (by kernel_rfl) (by kernel_rfl) (by kernel_rfl) ?_
            refine pl_nil ?_
            refine qw_then ?_
            refine cw_clean [2] (ws' := [(2, .bool false)]) (by kernel_rfl) (fun L => ?_)
            refine cw_ret ?_
            refine qw_ret [.bool false] rfl ⟨(by kernel_rfl), trivial⟩ ?_
            exact ⟨congrArg (fun b => Ending.returned (Value.bool b)) (show Orb.ok o = false by simp [Orb.ok, hb6, hb61, hb65, hc69]).symm, hE⟩
        ·
          refine pl_step rfl (by kernel_rfl) (by kernel_rfl) (by kernel_rfl) (sn_call (f := 45) (args := #[.int .i64 (o.hi : Int), .int .i64 0, .int .i64 23999]) (by kernel_rfl) ((orbit_in_r (r := false) o.hi 0 23999 _ (hb65)).mono ?_))
          rintro e w70 ⟨rfl, hb⟩
          replace hE := hE.trans hb
          replace hX5 := hX5.trans hb
          have hs71 := hb.size
          clear hb
          refine ⟨_, rfl, ?_⟩
          refine pl_take (.bool false) rfl (by kernel_rfl) (by kernel_rfl) (by kernel_rfl) (by kernel_rfl) ?_
          refine pl_take (.bool false) rfl (by kernel_rfl) (by kernel_rfl) (by kernel_rfl) (by kernel_rfl) ?_
          refine pl_skip rfl (by kernel_rfl) (by kernel_rfl) (by kernel_rfl) ?_
          refine pl_skip rfl (by kernel_rfl) (by kernel_rfl) (by kernel_rfl) ?_
          refine pl_skip rfl (by kernel_rfl) (by kernel_rfl) (by kernel_rfl) ?_
          refine pl_skip rfl (by kernel_rfl) (by kernel_rfl) (by kernel_rfl) ?_
          refine pl_skip rfl (by kernel_rfl) (by kernel_rfl) (by kernel_rfl) ?_
          refine pl_take (.bool false) rfl (by kernel_rfl) (by kernel_rfl) (by kernel_rfl) (by kernel_rfl) ?_
          refine pl_take (.bool false) rfl (by kernel_rfl) (by kernel_rfl) (by kernel_rfl) (by kernel_rfl) ?_
          refine pl_nil ?_
          refine qw_then ?_
          refine cw_clean [1, 3, 4] (ws' := [(1, .pointer (some ⟨O1, 0, none⟩)), (3, .bool false), (4, .bool false)]) (by kernel_rfl) (fun L => ?_)
          refine cw_seq ?_
          refine cw_plain ?_
          refine pl_take (.bool false) rfl (by kernel_rfl) (by kernel_rfl) (by kernel_rfl) (by kernel_rfl) ?_
          refine pl_take (.bool false) rfl (by kernel_rfl) (by kernel_rfl) (by kernel_rfl) (by kernel_rfl) ?_
          refine pl_skip rfl (by kernel_rfl) (by kernel_rfl) (by kernel_rfl) ?_
          refine pl_take (.bool false) rfl (by kernel_rfl) (by kernel_rfl) (by kernel_rfl) (by kernel_rfl) ?_
          refine pl_take (.bool false) rfl (by kernel_rfl) (by kernel_rfl) (by kernel_rfl) (by kernel_rfl) ?_
          refine pl_skip rfl (by kernel_rfl) (by kernel_rfl) (by kernel_rfl) ?_
          refine pl_skip rfl (by kernel_rfl) (by kernel_rfl) (by kernel_rfl) ?_
          refine pl_skip rfl (by kernel_rfl) (by kernel_rfl) (by kernel_rfl) ?_
          refine pl_take (.bool false) rfl (by kernel_rfl) (by kernel_rfl) (by kernel_rfl) (by kernel_rfl) ?_
          refine pl_take (.bool false) rfl (by kernel_rfl) (by kernel_rfl) (by kernel_rfl) (by kernel_rfl) ?_
          refine pl_skip rfl (by kernel_rfl) (by kernel_rfl) (by kernel_rfl) ?_
          refine pl_skip rfl (by kernel_rfl) (by kernel_rfl) (by kernel_rfl) ?_
          refine pl_skip rfl (by kernel_rfl) (by kernel_rfl) (by kernel_rfl) ?_
          refine pl_take (.bool false) rfl (by kernel_rfl) (by kernel_rfl) (by kernel_rfl) (by kernel_rfl) ?_
          refine pl_take (.bool false) rfl (by kernel_rfl) (by kernel_rfl) (by kernel_rfl) (by kernel_rfl) ?_
          refine pl_skip rfl (by kernel_rfl) (by kernel_rfl) (by kernel_rfl) ?_
          refine pl_skip rfl (by kernel_rfl) (by kernel_rfl) (by kernel_rfl) ?_
          refine pl_skip rfl (by kernel_rfl) (by kernel_rfl) (by kernel_rfl) ?_
          refine pl_take (.bool false) rfl (by kernel_rfl) (by kernel_rfl) (by kernel_rfl) (by kernel_rfl) ?_
          refine pl_take (.bool false) rfl (by kernel_rfl) (by kernel_rfl) (by kernel_rfl) (by kernel_rfl) ?_
          refine pl_nil ?_
          refine qw_then ?_
          refine cw_clean [2] (ws' := [(2, .bool false)]) (by kernel_rfl) (fun L => ?_)
          refine cw_ret ?_
          refine qw_ret [.bool false] rfl ⟨(by kernel_rfl), trivial⟩ ?_
          exact ⟨congrArg (fun b => Ending.returned (Value.bool b)) (show Orb.ok o = false by simp [Orb.ok, hb6, hb61, hb65]).symm, hE⟩
      ·
        refine pl_step rfl (by kernel_rfl) (by kernel_rfl) (by kernel_rfl) (sn_call (f := 45) (args := #[.int .i64 (o.lo : Int), .int .i64 0, .int .i64 23999]) (by kernel_rfl) ((orbit_in_r (r := false) o.lo 0 23999 _ (hb61)).mono ?_))
        rintro e w72 ⟨rfl, hb⟩
        replace hE := hE.trans hb
        replace hX5 := hX5.trans hb
        have hs73 := hb.size
        clear hb
        refine ⟨_, rfl, ?_⟩
        refine pl_take (.bool false) rfl (by kernel_rfl) (by kernel_rfl) (by kernel_rfl) (by kernel_rfl) ?_
        refine pl_skip rfl (by kernel_rfl) (by kernel_rfl) (by kernel_rfl) ?_
        refine pl_skip rfl (by kernel_rfl) (by kernel_rfl) (by kernel_rfl) ?_
        refine pl_skip rfl (by kernel_rfl) (by kernel_rfl) (by kernel_rfl) ?_
        refine pl_take (.bool false) rfl (by kernel_rfl) (by kernel_rfl) (by kernel_rfl) (by kernel_rfl) ?_
        refine pl_take (.bool false) rfl (by kernel_rfl) (by kernel_rfl) (by kernel_rfl) (by kernel_rfl) ?_
        refine pl_skip rfl (by kernel_rfl) (by kernel_rfl) (by kernel_rfl) ?_
        refine pl_skip rfl (by kernel_rfl) (by kernel_rfl) (by kernel_rfl) ?_
        refine pl_skip rfl (by kernel_rfl) (by kernel_rfl) (by kernel_rfl) ?_
        refine pl_skip rfl (by kernel_rfl) (by kernel_rfl) (by kernel_rfl) ?_
        refine pl_skip rfl (by kernel_rfl) (by kernel_rfl) (by kernel_rfl) ?_
        refine pl_take (.bool false) rfl (by kernel_rfl) (by kernel_rfl) (by kernel_rfl) (by kernel_rfl) ?_
        refine pl_take (.bool false) rfl (by kernel_rfl) (by kernel_rfl) (by kernel_rfl) (by kernel_rfl) ?_
        refine pl_nil ?_
        refine qw_then ?_
        refine cw_clean [1, 3, 4] (ws' := [(1, .pointer (some ⟨O1, 0, none⟩)), (3, .bool false), (4, .bool false)]) (by kernel_rfl) (fun L => ?_)
        refine cw_seq ?_
        refine cw_plain ?_
        refine pl_take (.bool false) rfl (by kernel_rfl) (by kernel_rfl) (by kernel_rfl) (by kernel_rfl) ?_
        refine pl_take (.bool false) rfl (by kernel_rfl) (by kernel_rfl) (by kernel_rfl) (by kernel_rfl) ?_
        refine pl_skip rfl (by kernel_rfl) (by kernel_rfl) (by kernel_rfl) ?_
        refine pl_take (.bool false) rfl (by kernel_rfl) (by kernel_rfl) (by kernel_rfl) (by kernel_rfl) ?_
        refine pl_take (.bool false) rfl (by kernel_rfl) (by kernel_rfl) (by kernel_rfl) (by kernel_rfl) ?_
        refine pl_skip rfl (by kernel_rfl) (by kernel_rfl) (by kernel_rfl) ?_
        refine pl_skip rfl (by kernel_rfl) (by kernel_rfl) (by kernel_rfl) ?_
        refine pl_skip rfl (by kernel_rfl) (by kernel_rfl) (by kernel_rfl) ?_
        refine pl_take (.bool false) rfl (by kernel_rfl) (by kernel_rfl) (by kernel_rfl) (by kernel_rfl) ?_
        refine pl_take (.bool false) rfl (by kernel_rfl) (by kernel_rfl) (by kernel_rfl) (by kernel_rfl) ?_
        refine pl_skip rfl (by kernel_rfl) (by kernel_rfl) (by kernel_rfl) ?_
        refine pl_skip rfl (by kernel_rfl) (by kernel_rfl) (by kernel_rfl) ?_
        refine pl_skip rfl (by kernel_rfl) (by kernel_rfl) (by kernel_rfl) ?_
        refine pl_take (.bool false) rfl (by kernel_rfl) (by kernel_rfl) (by kernel_rfl) (by kernel_rfl) ?_
        refine pl_take (.bool false) rfl (by kernel_rfl) (by kernel_rfl) (by kernel_rfl) (by kernel_rfl) ?_
        refine pl_skip rfl (by kernel_rfl) (by kernel_rfl) (by kernel_rfl) ?_
        refine pl_skip rfl (by kernel_rfl) (by kernel_rfl) (by kernel_rfl) ?_
        refine pl_skip rfl (by kernel_rfl) (by kernel_rfl) (by kernel_rfl) ?_
        refine pl_take (.bool false) rfl (by kernel_rfl) (by kernel_rfl) (by kernel_rfl) (by kernel_rfl) ?_
        refine pl_take (.bool false) rfl (by kernel_rfl) (by kernel_rfl) (by kernel_rfl) (by kernel_rfl) ?_
        refine pl_nil ?_
        refine qw_then ?_
        refine cw_clean [2] (ws' := [(2, .bool false)]) (by kernel_rfl) (fun L => ?_)
        refine cw_ret ?_
        refine qw_ret [.bool false] rfl ⟨(by kernel_rfl), trivial⟩ ?_
        exact ⟨congrArg (fun b => Ending.returned (Value.bool b)) (show Orb.ok o = false by simp [Orb.ok, hb6, hb61]).symm, hE⟩
  ·
    refine pl_step rfl (by kernel_rfl) (by kernel_rfl) (by kernel_rfl) (sn_call (f := 45) (args := #[.int .i64 (o.p : Int), .int .i64 20, .int .i64 2000]) (by kernel_rfl) ((orbit_in_r (r := false) o.p 20 2000 _ (hb6)).mono ?_))
    rintro e w74 ⟨rfl, hb⟩
    replace hE := hE.trans hb
    replace hX5 := hX5.trans hb
    have hs75 := hb.size
    clear hb
    refine ⟨_, rfl, ?_⟩
    refine pl_take (.bool false) rfl (by kernel_rfl) (by kernel_rfl) (by kernel_rfl) (by kernel_rfl) ?_
    refine pl_skip rfl (by kernel_rfl) (by kernel_rfl) (by kernel_rfl) ?_
    refine pl_skip rfl (by kernel_rfl) (by kernel_rfl) (by kernel_rfl) ?_
    refine pl_skip rfl (by kernel_rfl) (by kernel_rfl) (by kernel_rfl) ?_
    refine pl_skip rfl (by kernel_rfl) (by kernel_rfl) (by kernel_rfl) ?_
    refine pl_take (.bool false) rfl (by kernel_rfl) (by kernel_rfl) (by kernel_rfl) (by kernel_rfl) ?_
    refine pl_take (.bool false) rfl (by kernel_rfl) (by kernel_rfl) (by kernel_rfl) (by kernel_rfl) ?_
    refine pl_skip rfl (by kernel_rfl) (by kernel_rfl) (by kernel_rfl) ?_
    refine pl_skip rfl (by kernel_rfl) (by kernel_rfl) (by kernel_rfl) ?_
    refine pl_skip rfl (by kernel_rfl) (by kernel_rfl) (by kernel_rfl) ?_
    refine pl_skip rfl (by kernel_rfl) (by kernel_rfl) (by kernel_rfl) ?_
    refine pl_skip rfl (by kernel_rfl) (by kernel_rfl) (by kernel_rfl) ?_
    refine pl_skip rfl (by kernel_rfl) (by kernel_rfl) (by kernel_rfl) ?_
    refine pl_take (.bool false) rfl (by kernel_rfl) (by kernel_rfl) (by kernel_rfl) (by kernel_rfl) ?_
    refine pl_take (.bool false) rfl (by kernel_rfl) (by kernel_rfl) (by kernel_rfl) (by kernel_rfl) ?_
    refine pl_nil ?_
    refine qw_then ?_
    refine cw_clean [1, 3] (ws' := [(1, .pointer (some ⟨O1, 0, none⟩)), (3, .bool false)]) (by kernel_rfl) (fun L => ?_)
    refine cw_seq ?_
    refine cw_plain ?_
    refine pl_take (.pointer (some ⟨O1, 2, none⟩)) rfl (by kernel_rfl) (by kernel_rfl) (by kernel_rfl) (by kernel_rfl) ?_
    refine pl_take (.int .i64 (o.lo : Int)) rfl (by kernel_rfl) (by kernel_rfl) (by kernel_rfl) (ex_load rfl (by kernel_rfl) (ld3 ((BoxAt.ext hX5 bO1_2).1))) ?_
    rcases Bool.eq_false_or_eq_true (Globe.inB o.lo 0 23999) with hb76 | hb76
    ·
      have hq77 := Globe.inB_t.1 hb76
      refine pl_step rfl (by kernel_rfl) (by kernel_rfl) (by kernel_rfl) (sn_call (f := 45) (args := #[.int .i64 (o.lo : Int), .int .i64 0, .int .i64 23999]) (by kernel_rfl) ((orbit_in_r (r := true) o.lo 0 23999 _ (hb76)).mono ?_))
      rintro e w78 ⟨rfl, hb⟩
      replace hE := hE.trans hb
      replace hX5 := hX5.trans hb
      have hs79 := hb.size
      clear hb
      refine ⟨_, rfl, ?_⟩
      refine pl_take (.bool true) rfl (by kernel_rfl) (by kernel_rfl) (by kernel_rfl) (by kernel_rfl) ?_
      refine pl_take (.pointer (some ⟨O1, 3, none⟩)) rfl (by kernel_rfl) (by kernel_rfl) (by kernel_rfl) (by kernel_rfl) ?_
      refine pl_take (.int .i64 (o.hi : Int)) rfl (by kernel_rfl) (by kernel_rfl) (by kernel_rfl) (ex_load rfl (by kernel_rfl) (ld3 ((BoxAt.ext hX5 bO1_3).1))) ?_
      rcases Bool.eq_false_or_eq_true (Globe.inB o.hi 0 23999) with hb80 | hb80
      ·
        have hq81 := Globe.inB_t.1 hb80
        refine pl_step rfl (by kernel_rfl) (by kernel_rfl) (by kernel_rfl) (sn_call (f := 45) (args := #[.int .i64 (o.hi : Int), .int .i64 0, .int .i64 23999]) (by kernel_rfl) ((orbit_in_r (r := true) o.hi 0 23999 _ (hb80)).mono ?_))
        rintro e w82 ⟨rfl, hb⟩
        replace hE := hE.trans hb
        replace hX5 := hX5.trans hb
        have hs83 := hb.size
        clear hb
        refine ⟨_, rfl, ?_⟩
        refine pl_take (.bool true) rfl (by kernel_rfl) (by kernel_rfl) (by kernel_rfl) (by kernel_rfl) ?_
        refine pl_take (.bool true) rfl (by kernel_rfl) (by kernel_rfl) (by kernel_rfl) (by kernel_rfl) ?_
        refine pl_take (.pointer (some ⟨O1, 2, none⟩)) rfl (by kernel_rfl) (by kernel_rfl) (by kernel_rfl) (by kernel_rfl) ?_
        refine pl_take (.int .i64 (o.lo : Int)) rfl (by kernel_rfl) (by kernel_rfl) (by kernel_rfl) (ex_load rfl (by kernel_rfl) (ld3 ((BoxAt.ext hX5 bO1_2).1))) ?_
        refine pl_take (.pointer (some ⟨O1, 3, none⟩)) rfl (by kernel_rfl) (by kernel_rfl) (by kernel_rfl) (by kernel_rfl) ?_
        refine pl_take (.int .i64 (o.hi : Int)) rfl (by kernel_rfl) (by kernel_rfl) (by kernel_rfl) (ex_load rfl (by kernel_rfl) (ld3 ((BoxAt.ext hX5 bO1_3).1))) ?_
        by_cases hc84 : (o.lo : Int) < (o.hi : Int)
        ·
          refine pl_take (.bool true) rfl (by kernel_rfl) (by kernel_rfl) (by kernel_rfl) (ev_dec (show _ = Result.ok (Next.value (Value.bool (decide ((o.lo : Int) < (o.hi : Int))))) _ from by kernel_rfl) (hc84)) ?_
          refine pl_take (.bool true) rfl (by kernel_rfl) (by kernel_rfl) (by kernel_rfl) (by kernel_rfl) ?_
          refine pl_take (.bool true) rfl (by kernel_rfl) (by kernel_rfl) (by kernel_rfl) (by kernel_rfl) ?_
          refine pl_nil ?_
          refine qw_then ?_
          refine cw_clean [1, 3, 4] (ws' := [(1, .pointer (some ⟨O1, 0, none⟩)), (3, .bool false), (4, .bool true)]) (by kernel_rfl) (fun L => ?_)
          refine cw_seq ?_
          refine cw_plain ?_
          refine pl_take (.bool false) rfl (by kernel_rfl) (by kernel_rfl) (by kernel_rfl) (by kernel_rfl) ?_
          refine pl_take (.bool false) rfl (by kernel_rfl) (by kernel_rfl) (by kernel_rfl) (by kernel_rfl) ?_
          refine pl_skip rfl (by kernel_rfl) (by kernel_rfl) (by kernel_rfl) ?_
          refine pl_take (.bool false) rfl (by kernel_rfl) (by kernel_rfl) (by kernel_rfl) (by kernel_rfl) ?_
          refine pl_take (.bool false) rfl (by kernel_rfl) (by kernel_rfl) (by kernel_rfl) (by kernel_rfl) ?_
          refine pl_skip rfl (by kernel_rfl) (by kernel_rfl) (by kernel_rfl) ?_
          refine pl_skip rfl (by kernel_rfl) (by kernel_rfl) (by kernel_rfl) ?_
          refine pl_skip rfl (by kernel_rfl) (by kernel_rfl) (by kernel_rfl) ?_
          refine pl_take (.bool false) rfl (by kernel_rfl) (by kernel_rfl) (by kernel_rfl) (by kernel_rfl) ?_
          refine pl_take (.bool false) rfl (by kernel_rfl) (by kernel_rfl) (by kernel_rfl) (by kernel_rfl) ?_
          refine pl_skip rfl (by kernel_rfl) (by kernel_rfl) (by kernel_rfl) ?_
          refine pl_skip rfl (by kernel_rfl) (by kernel_rfl) (by kernel_rfl) ?_
          refine pl_skip rfl (by kernel_rfl) (by kernel_rfl) (by kernel_rfl) ?_
          refine pl_take (.bool false) rfl (by kernel_rfl) (by kernel_rfl) (by kernel_rfl) (by kernel_rfl) ?_
          refine pl_take (.bool false) rfl (by kernel_rfl) (by kernel_rfl) (by kernel_rfl) (by kernel_rfl) ?_
          refine pl_skip rfl (by kernel_rfl) (by kernel_rfl) (by kernel_rfl) ?_
          refine pl_skip rfl (by kernel_rfl) (by kernel_rfl) (by kernel_rfl) ?_
          refine pl_skip rfl (by kernel_rfl) (by kernel_rfl) (by kernel_rfl) ?_
          refine pl_take (.bool false) rfl (by kernel_rfl) (by kernel_rfl) (by kernel_rfl) (by kernel_rfl) ?_
          refine pl_take (.bool false) rfl (by kernel_rfl) (by kernel_rfl) (by kernel_rfl) (by kernel_rfl) ?_
          refine pl_nil ?_
          refine qw_then ?_
          refine cw_clean [2] (ws' := [(2, .bool false)]) (by kernel_rfl) (fun L => ?_)
          refine cw_ret ?_
          refine qw_ret [.bool false] rfl ⟨(by kernel_rfl), trivial⟩ ?_
          exact ⟨congrArg (fun b => Ending.returned (Value.bool b)) (show Orb.ok o = false by simp [Orb.ok, hb6, hb76, hb80, hc84]).symm, hE⟩
        ·
          refine pl_take (.bool false) rfl (by kernel_rfl) (by kernel_rfl) (by kernel_rfl) (ev_ndec (show _ = Result.ok (Next.value (Value.bool (decide ((o.lo : Int) < (o.hi : Int))))) _ from by kernel_rfl) (hc84)) ?_
          refine pl_take (.bool false) rfl (by kernel_rfl) (by kernel_rfl) (by kernel_rfl) (by kernel_rfl) ?_
          refine pl_take (.bool false) rfl (by kernel_rfl) (by kernel_rfl) (by kernel_rfl) (by kernel_rfl) ?_
          refine pl_nil ?_
          refine qw_then ?_
          refine cw_clean [1, 3, 4] (ws' := [(1, .pointer (some ⟨O1, 0, none⟩)), (3, .bool false), (4, .bool false)]) (by kernel_rfl) (fun L => ?_)
          refine cw_seq ?_
          refine cw_plain ?_
          refine pl_take (.bool false) rfl (by kernel_rfl) (by kernel_rfl) (by kernel_rfl) (by kernel_rfl) ?_
          refine pl_take (.bool false) rfl (by kernel_rfl) (by kernel_rfl) (by kernel_rfl) (by kernel_rfl) ?_
          refine pl_skip rfl (by kernel_rfl) (by kernel_rfl) (by kernel_rfl) ?_
          refine pl_take (.bool false) rfl (by kernel_rfl) (by kernel_rfl) (by kernel_rfl) (by kernel_rfl) ?_
          refine pl_take (.bool false) rfl (by kernel_rfl) (by kernel_rfl) (by kernel_rfl) (by kernel_rfl) ?_
          refine pl_skip rfl (by kernel_rfl) (by kernel_rfl) (by kernel_rfl) ?_
          refine pl_skip rfl (by kernel_rfl) (by kernel_rfl) (by kernel_rfl) ?_
          refine pl_skip rfl (by kernel_rfl) (by kernel_rfl) (by kernel_rfl) ?_
          refine pl_take (.bool false) rfl (by kernel_rfl) (by kernel_rfl) (by kernel_rfl) (by kernel_rfl) ?_
          refine pl_take (.bool false) rfl (by kernel_rfl) (by kernel_rfl) (by kernel_rfl) (by kernel_rfl) ?_
          refine pl_skip rfl (by kernel_rfl) (by kernel_rfl) (by kernel_rfl) ?_
          refine pl_skip rfl (by kernel_rfl) (by kernel_rfl) (by kernel_rfl) ?_
          refine pl_skip rfl (by kernel_rfl) (by kernel_rfl) (by kernel_rfl) ?_
          refine pl_take (.bool false) rfl (by kernel_rfl) (by kernel_rfl) (by kernel_rfl) (by kernel_rfl) ?_
          refine pl_take (.bool false) rfl (by kernel_rfl) (by kernel_rfl) (by kernel_rfl) (by kernel_rfl) ?_
          refine pl_skip rfl (by kernel_rfl) (by kernel_rfl) (by kernel_rfl) ?_
          refine pl_skip rfl (by kernel_rfl) (by kernel_rfl) (by kernel_rfl) ?_
          refine pl_skip rfl (by kernel_rfl) (by kernel_rfl) (by kernel_rfl) ?_
          refine pl_take (.bool false) rfl (by kernel_rfl) (by kernel_rfl) (by kernel_rfl) (by kernel_rfl) ?_
          refine pl_take (.bool false) rfl (by kernel_rfl) (by kernel_rfl) (by kernel_rfl) (by kernel_rfl) ?_
          refine pl_nil ?_
          refine qw_then ?_
          refine cw_clean [2] (ws' := [(2, .bool false)]) (by kernel_rfl) (fun L => ?_)
          refine cw_ret ?_
          refine qw_ret [.bool false] rfl ⟨(by kernel_rfl), trivial⟩ ?_
          exact ⟨congrArg (fun b => Ending.returned (Value.bool b)) (show Orb.ok o = false by simp [Orb.ok, hb6, hb76, hb80, hc84]).symm, hE⟩
      ·
        refine pl_step rfl (by kernel_rfl) (by kernel_rfl) (by kernel_rfl) (sn_call (f := 45) (args := #[.int .i64 (o.hi : Int), .int .i64 0, .int .i64 23999]) (by kernel_rfl) ((orbit_in_r (r := false) o.hi 0 23999 _ (hb80)).mono ?_))
        rintro e w85 ⟨rfl, hb⟩
        replace hE := hE.trans hb
        replace hX5 := hX5.trans hb
        have hs86 := hb.size
        clear hb
        refine ⟨_, rfl, ?_⟩
        refine pl_take (.bool false) rfl (by kernel_rfl) (by kernel_rfl) (by kernel_rfl) (by kernel_rfl) ?_
        refine pl_take (.bool false) rfl (by kernel_rfl) (by kernel_rfl) (by kernel_rfl) (by kernel_rfl) ?_
        refine pl_skip rfl (by kernel_rfl) (by kernel_rfl) (by kernel_rfl) ?_
        refine pl_skip rfl (by kernel_rfl) (by kernel_rfl) (by kernel_rfl) ?_
        refine pl_skip rfl (by kernel_rfl) (by kernel_rfl) (by kernel_rfl) ?_
        refine pl_skip rfl (by kernel_rfl) (by kernel_rfl) (by kernel_rfl) ?_
        refine pl_skip rfl (by kernel_rfl) (by kernel_rfl) (by kernel_rfl) ?_
        refine pl_take (.bool false) rfl (by kernel_rfl) (by kernel_rfl) (by kernel_rfl) (by kernel_rfl) ?_
        refine pl_take (.bool false) rfl (by kernel_rfl) (by kernel_rfl) (by kernel_rfl) (by kernel_rfl) ?_
        refine pl_nil ?_
        refine qw_then ?_
        refine cw_clean [1, 3, 4] (ws' := [(1, .pointer (some ⟨O1, 0, none⟩)), (3, .bool false), (4, .bool false)]) (by kernel_rfl) (fun L => ?_)
        refine cw_seq ?_
        refine cw_plain ?_
        refine pl_take (.bool false) rfl (by kernel_rfl) (by kernel_rfl) (by kernel_rfl) (by kernel_rfl) ?_
        refine pl_take (.bool false) rfl (by kernel_rfl) (by kernel_rfl) (by kernel_rfl) (by kernel_rfl) ?_
        refine pl_skip rfl (by kernel_rfl) (by kernel_rfl) (by kernel_rfl) ?_
        refine pl_take (.bool false) rfl (by kernel_rfl) (by kernel_rfl) (by kernel_rfl) (by kernel_rfl) ?_
        refine pl_take (.bool false) rfl (by kernel_rfl) (by kernel_rfl) (by kernel_rfl) (by kernel_rfl) ?_
        refine pl_skip rfl (by kernel_rfl) (by kernel_rfl) (by kernel_rfl) ?_
        refine pl_skip rfl (by kernel_rfl) (by kernel_rfl) (by kernel_rfl) ?_
        refine pl_skip rfl (by kernel_rfl) (by kernel_rfl) (by kernel_rfl) ?_
        refine pl_take (.bool false) rfl (by kernel_rfl) (by kernel_rfl) (by kernel_rfl) (by kernel_rfl) ?_
        refine pl_take (.bool false) rfl (by kernel_rfl) (by kernel_rfl) (by kernel_rfl) (by kernel_rfl) ?_
        refine pl_skip rfl (by kernel_rfl) (by kernel_rfl) (by kernel_rfl) ?_
        refine pl_skip rfl (by kernel_rfl) (by kernel_rfl) (by kernel_rfl) ?_
        refine pl_skip rfl (by kernel_rfl) (by kernel_rfl) (by kernel_rfl) ?_
        refine pl_take (.bool false) rfl (by kernel_rfl) (by kernel_rfl) (by kernel_rfl) (by kernel_rfl) ?_
        refine pl_take (.bool false) rfl (by kernel_rfl) (by kernel_rfl) (by kernel_rfl) (by kernel_rfl) ?_
        refine pl_skip rfl (by kernel_rfl) (by kernel_rfl) (by kernel_rfl) ?_
        refine pl_skip rfl (by kernel_rfl) (by kernel_rfl) (by kernel_rfl) ?_
        refine pl_skip rfl (by kernel_rfl) (by kernel_rfl) (by kernel_rfl) ?_
        refine pl_take (.bool false) rfl (by kernel_rfl) (by kernel_rfl) (by kernel_rfl) (by kernel_rfl) ?_
        refine pl_take (.bool false) rfl (by kernel_rfl) (by kernel_rfl) (by kernel_rfl) (by kernel_rfl) ?_
        refine pl_nil ?_
        refine qw_then ?_
        refine cw_clean [2] (ws' := [(2, .bool false)]) (by kernel_rfl) (fun L => ?_)
        refine cw_ret ?_
        refine qw_ret [.bool false] rfl ⟨(by kernel_rfl), trivial⟩ ?_
        exact ⟨congrArg (fun b => Ending.returned (Value.bool b)) (show Orb.ok o = false by simp [Orb.ok, hb6, hb76, hb80]).symm, hE⟩
    ·
      refine pl_step rfl (by kernel_rfl) (by kernel_rfl) (by kernel_rfl) (sn_call (f := 45) (args := #[.int .i64 (o.lo : Int), .int .i64 0, .int .i64 23999]) (by kernel_rfl) ((orbit_in_r (r := false) o.lo 0 23999 _ (hb76)).mono ?_))
      rintro e w87 ⟨rfl, hb⟩
      replace hE := hE.trans hb
      replace hX5 := hX5.trans hb
      have hs88 := hb.size
      clear hb
      refine ⟨_, rfl, ?_⟩
      refine pl_take (.bool false) rfl (by kernel_rfl) (by kernel_rfl) (by kernel_rfl) (by kernel_rfl) ?_
      refine pl_skip rfl (by kernel_rfl) (by kernel_rfl) (by kernel_rfl) ?_
      refine pl_skip rfl (by kernel_rfl) (by kernel_rfl) (by kernel_rfl) ?_
      refine pl_skip rfl (by kernel_rfl) (by kernel_rfl) (by kernel_rfl) ?_
      refine pl_take (.bool false) rfl (by kernel_rfl) (by kernel_rfl) (by kernel_rfl) (by kernel_rfl) ?_
      refine pl_take (.bool false) rfl (by kernel_rfl) (by kernel_rfl) (by kernel_rfl) (by kernel_rfl) ?_
      refine pl_skip rfl (by kernel_rfl) (by kernel_rfl) (by kernel_rfl) ?_
      refine pl_skip rfl (by kernel_rfl) (by kernel_rfl) (by kernel_rfl) ?_
      refine pl_skip rfl (by kernel_rfl) (by kernel_rfl) (by kernel_rfl) ?_
      refine pl_skip rfl (by kernel_rfl) (by kernel_rfl) (by kernel_rfl) ?_
      refine pl_skip rfl (by kernel_rfl) (by kernel_rfl) (by kernel_rfl) ?_
      refine pl_take (.bool false) rfl (by kernel_rfl) (by kernel_rfl) (by kernel_rfl) (by kernel_rfl) ?_
      refine pl_take (.bool false) rfl (by kernel_rfl) (by kernel_rfl) (by kernel_rfl) (by kernel_rfl) ?_
      refine pl_nil ?_
      refine qw_then ?_
      refine cw_clean [1, 3, 4] (ws' := [(1, .pointer (some ⟨O1, 0, none⟩)), (3, .bool false), (4, .bool false)]) (by kernel_rfl) (fun L => ?_)
      refine cw_seq ?_
      refine cw_plain ?_
      refine pl_take (.bool false) rfl (by kernel_rfl) (by kernel_rfl) (by kernel_rfl) (by kernel_rfl) ?_
      refine pl_take (.bool false) rfl (by kernel_rfl) (by kernel_rfl) (by kernel_rfl) (by kernel_rfl) ?_
      refine pl_skip rfl (by kernel_rfl) (by kernel_rfl) (by kernel_rfl) ?_
      refine pl_take (.bool false) rfl (by kernel_rfl) (by kernel_rfl) (by kernel_rfl) (by kernel_rfl) ?_
      refine pl_take (.bool false) rfl (by kernel_rfl) (by kernel_rfl) (by kernel_rfl) (by kernel_rfl) ?_
      refine pl_skip rfl (by kernel_rfl) (by kernel_rfl) (by kernel_rfl) ?_
      refine pl_skip rfl (by kernel_rfl) (by kernel_rfl) (by kernel_rfl) ?_
      refine pl_skip rfl (by kernel_rfl) (by kernel_rfl) (by kernel_rfl) ?_
      refine pl_take (.bool false) rfl (by kernel_rfl) (by kernel_rfl) (by kernel_rfl) (by kernel_rfl) ?_
      refine pl_take (.bool false) rfl (by kernel_rfl) (by kernel_rfl) (by kernel_rfl) (by kernel_rfl) ?_
      refine pl_skip rfl (by kernel_rfl) (by kernel_rfl) (by kernel_rfl) ?_
      refine pl_skip rfl (by kernel_rfl) (by kernel_rfl) (by kernel_rfl) ?_
      refine pl_skip rfl (by kernel_rfl) (by kernel_rfl) (by kernel_rfl) ?_
      refine pl_take (.bool false) rfl (by kernel_rfl) (by kernel_rfl) (by kernel_rfl) (by kernel_rfl) ?_
      refine pl_take (.bool false) rfl (by kernel_rfl) (by kernel_rfl) (by kernel_rfl) (by kernel_rfl) ?_
      refine pl_skip rfl (by kernel_rfl) (by kernel_rfl) (by kernel_rfl) ?_
      refine pl_skip rfl (by kernel_rfl) (by kernel_rfl) (by kernel_rfl) ?_
      refine pl_skip rfl (by kernel_rfl) (by kernel_rfl) (by kernel_rfl) ?_
      refine pl_take (.bool false) rfl (by kernel_rfl) (by kernel_rfl) (by kernel_rfl) (by kernel_rfl) ?_
      refine pl_take (.bool false) rfl (by kernel_rfl) (by kernel_rfl) (by kernel_rfl) (by kernel_rfl) ?_
      refine pl_nil ?_
      refine qw_then ?_
      refine cw_clean [2] (ws' := [(2, .bool false)]) (by kernel_rfl) (fun L => ?_)
      refine cw_ret ?_
      refine qw_ret [.bool false] rfl ⟨(by kernel_rfl), trivial⟩ ?_
      exact ⟨congrArg (fun b => Ending.returned (Value.bool b)) (show Orb.ok o = false by simp [Orb.ok, hb6, hb76]).symm, hE⟩
theorem oValid_r {o : Orb} {r : Bool} (w : World) (hr : Orb.ok o = r) : Calls Tryd.prog 35 #[.agg #[.int .i64 o.p, .int .i64 o.f, .int .i64 o.lo, .int .i64 o.hi, .int .i64 o.nd, .int .i64 o.tn, .int .i64 o.sl]] w fun e w' => e = .returned (.bool r) ∧ Ext w w' := hr ▸ oValid_c o w

end Go.Proofs.YtdjjkhefdalokaaDoor

/- Contracts of package orbit: where a satellite is. -/
namespace Go.Proofs.YtdjjkhefdalokaaDoor
open Go.RowKit

set_option maxRecDepth 1000000 in
set_option maxHeartbeats 4000000 in
theorem column_c (o : Orb) (t : Int) (w : World) (hok : Orb.ok o = true) (h0 : -10 ≤ t) (h1 : t ≤ 1000010) : Calls Tryd.prog 46 #[.agg #[.int .i64 o.p, .int .i64 o.f, .int .i64 o.lo, .int .i64 o.hi, .int .i64 o.nd, .int .i64 o.tn, .int .i64 o.sl, .int .i64 t]] w fun e w' => e = .returned (.int .i64 (Orb.col o t)) ∧ Ext w w' := by
  have hq0 := Orb.ok_t.1 hok
  have hm := Orb.turn_bd hok t h0 h1
  refine calls_cw 14 [(0, .agg #[.int .i64 (o.p : Int), .int .i64 (o.f : Int), .int .i64 (o.lo : Int), .int .i64 (o.hi : Int), .int .i64 (o.nd : Int), .int .i64 (o.tn : Int), .int .i64 (o.sl : Int), .int .i64 (t : Int)])] Tryd.func46 rfl Tryd.ntmps46 (by kernel_rfl) (by kernel_rfl) (fun L => ?_)
  have hE : Ext w w := Ext.refl w
  refine cw_seq ?_
  refine cw_plain ?_
  refine pl_step rfl (by kernel_rfl) (by kernel_rfl) (by kernel_rfl) (sn_new (us := #[.int .i64 (o.p : Int), .int .i64 (o.f : Int), .int .i64 (o.lo : Int), .int .i64 (o.hi : Int), .int .i64 (o.nd : Int), .int .i64 (o.tn : Int), .int .i64 (o.sl : Int), .int .i64 (t : Int)]) (t := 61) (by kernel_rfl) ?_)
  intro O1 X2 hO hOs hb hbx
  have hzO1 := hO; have hyO1 := hOs; clear hO hOs
  have bO1_0 : BoxAt X2 O1 0 (.int .i64 (o.p : Int)) := hbx 0 _ rfl
  have bO1_1 : BoxAt X2 O1 1 (.int .i64 (o.f : Int)) := hbx 1 _ rfl
  have bO1_2 : BoxAt X2 O1 2 (.int .i64 (o.lo : Int)) := hbx 2 _ rfl
  have bO1_3 : BoxAt X2 O1 3 (.int .i64 (o.hi : Int)) := hbx 3 _ rfl
  have bO1_4 : BoxAt X2 O1 4 (.int .i64 (o.nd : Int)) := hbx 4 _ rfl
  have bO1_5 : BoxAt X2 O1 5 (.int .i64 (o.tn : Int)) := hbx 5 _ rfl
  have bO1_6 : BoxAt X2 O1 6 (.int .i64 (o.sl : Int)) := hbx 6 _ rfl
  have bO1_7 : BoxAt X2 O1 7 (.int .i64 (t : Int)) := hbx 7 _ rfl
  clear hbx
  replace hE := hE.trans hb
  have hs3 := hb.size
  clear hb
  have lt4 := bO1_0.lt
  refine pl_take (.int .i64 0) rfl (by kernel_rfl) (by kernel_rfl) (by kernel_rfl) (by kernel_rfl) ?_
  refine pl_nil ?_
  refine qw_then ?_
  refine cw_seq ?_
  have hX5 : Ext X2 X2 := Ext.refl _
  refine cw_plain ?_
  refine pl_take (.pointer (some ⟨O1, 0, none⟩)) rfl (by kernel_rfl) (by kernel_rfl) (by kernel_rfl) (by kernel_rfl) ?_
  refine pl_take (.pointer (some ⟨O1, 4, none⟩)) rfl (by kernel_rfl) (by kernel_rfl) (by kernel_rfl) (by kernel_rfl) ?_
  refine pl_take (.int .i64 (o.nd : Int)) rfl (by kernel_rfl) (by kernel_rfl) (by kernel_rfl) (ex_load rfl (by kernel_rfl) (ld3 (bO1_4.1))) ?_
  refine pl_take (.pointer (some ⟨O1, 0, none⟩)) rfl (by kernel_rfl) (by kernel_rfl) (by kernel_rfl) (by kernel_rfl) ?_
  refine pl_take (.pointer (some ⟨O1, 5, none⟩)) rfl (by kernel_rfl) (by kernel_rfl) (by kernel_rfl) (by kernel_rfl) ?_
  refine pl_take (.int .i64 (o.tn : Int)) rfl (by kernel_rfl) (by kernel_rfl) (by kernel_rfl) (ex_load rfl (by kernel_rfl) (ld3 (bO1_5.1))) ?_
  refine pl_take (.pointer (some ⟨O1, 7, none⟩)) rfl (by kernel_rfl) (by kernel_rfl) (by kernel_rfl) (by kernel_rfl) ?_
  refine pl_take (.int .i64 (t : Int)) rfl (by kernel_rfl) (by kernel_rfl) (by kernel_rfl) (ex_load rfl (by kernel_rfl) (ld3 (bO1_7.1))) ?_
  refine pl_take (.int .i64 (o.tn * t : Int)) rfl (by kernel_rfl) (by kernel_rfl) (by kernel_rfl) (ev_wrap (by kernel_rfl) (by omega) (by omega)) ?_
  refine pl_take (.int .i64 (o.nd + (o.tn * t) : Int)) rfl (by kernel_rfl) (by kernel_rfl) (by kernel_rfl) (ev_wrap (by kernel_rfl) (by omega) (by omega)) ?_
  refine pl_step rfl (by kernel_rfl) (by kernel_rfl) (by kernel_rfl) (sn_call (f := 67) (args := #[.int .i64 (o.nd + (o.tn * t) : Int), .int .i64 48000]) (by kernel_rfl) ((around_c (o.nd + (o.tn * t)) 48000 _ (by omega) (by omega)).mono ?_))
  rintro e w6 ⟨rfl, hb⟩
  replace hE := hE.trans hb
  replace hX5 := hX5.trans hb
  have hs7 := hb.size
  clear hb
  refine ⟨_, rfl, ?_⟩
  refine pl_take (.int .i64 ((o.nd + (o.tn * t)) % 48000 : Int)) rfl (by kernel_rfl) (by kernel_rfl) (by kernel_rfl) (by kernel_rfl) ?_
  refine pl_nil ?_
  refine qw_then ?_
  refine cw_ret ?_
  refine qw_ret [.int .i64 ((o.nd + (o.tn * t)) % 48000 : Int)] rfl ⟨(by kernel_rfl), trivial⟩ ?_
  exact ⟨rfl, hE⟩
set_option maxRecDepth 1000000 in
set_option maxHeartbeats 4000000 in
theorem row_c (o : Orb) (t : Int) (w : World) (hok : Orb.ok o = true) (h0 : -10 ≤ t) (h1 : t ≤ 1000010) : Calls Tryd.prog 47 #[.agg #[.int .i64 o.p, .int .i64 o.f, .int .i64 o.lo, .int .i64 o.hi, .int .i64 o.nd, .int .i64 o.tn, .int .i64 o.sl, .int .i64 t]] w fun e w' => e = .returned (.int .i64 (Orb.row o t)) ∧ Ext w w' := by
  have hq0 := Orb.ok_t.1 hok
  have hu := Orb.ph_bd hok t
  have hv := Orb.up_bd hok t
  obtain ⟨hm0, hm1⟩ := Orb.mul_bd hok t
  have hm2 := Orb.mul_le hok
  have hr := Orb.row_bd hok t
  refine calls_cw 38 [(0, .agg #[.int .i64 (o.p : Int), .int .i64 (o.f : Int), .int .i64 (o.lo : Int), .int .i64 (o.hi : Int), .int .i64 (o.nd : Int), .int .i64 (o.tn : Int), .int .i64 (o.sl : Int), .int .i64 (t : Int)])] Tryd.func47 rfl Tryd.ntmps47 (by kernel_rfl) (by kernel_rfl) (fun L => ?_)
  have hE : Ext w w := Ext.refl w
  refine cw_seq ?_
  refine cw_plain ?_
  refine pl_step rfl (by kernel_rfl) (by kernel_rfl) (by kernel_rfl) (sn_new (us := #[.int .i64 (o.p : Int), .int .i64 (o.f : Int), .int .i64 (o.lo : Int), .int .i64 (o.hi : Int), .int .i64 (o.nd : Int), .int .i64 (o.tn : Int), .int .i64 (o.sl : Int), .int .i64 (t : Int)]) (t := 61) (by kernel_rfl) ?_)
  intro O1 X2 hO hOs hb hbx
  have hzO1 := hO; have hyO1 := hOs; clear hO hOs
  have bO1_0 : BoxAt X2 O1 0 (.int .i64 (o.p : Int)) := hbx 0 _ rfl
  have bO1_1 : BoxAt X2 O1 1 (.int .i64 (o.f : Int)) := hbx 1 _ rfl
  have bO1_2 : BoxAt X2 O1 2 (.int .i64 (o.lo : Int)) := hbx 2 _ rfl
  have bO1_3 : BoxAt X2 O1 3 (.int .i64 (o.hi : Int)) := hbx 3 _ rfl
  have bO1_4 : BoxAt X2 O1 4 (.int .i64 (o.nd : Int)) := hbx 4 _ rfl
  have bO1_5 : BoxAt X2 O1 5 (.int .i64 (o.tn : Int)) := hbx 5 _ rfl
  have bO1_6 : BoxAt X2 O1 6 (.int .i64 (o.sl : Int)) := hbx 6 _ rfl
  have bO1_7 : BoxAt X2 O1 7 (.int .i64 (t : Int)) := hbx 7 _ rfl
  clear hbx
  replace hE := hE.trans hb
  have hs3 := hb.size
  clear hb
  have lt4 := bO1_0.lt
  refine pl_take (.int .i64 0) rfl (by kernel_rfl) (by kernel_rfl) (by kernel_rfl) (by kernel_rfl) ?_
  refine pl_nil ?_
  refine qw_then ?_
  refine cw_seq ?_
  have hX5 : Ext X2 X2 := Ext.refl _
  refine cw_plain ?_
  refine pl_take (.pointer (some ⟨O1, 7, none⟩)) rfl (by kernel_rfl) (by kernel_rfl) (by kernel_rfl) (by kernel_rfl) ?_
  refine pl_take (.int .i64 (t : Int)) rfl (by kernel_rfl) (by kernel_rfl) (by kernel_rfl) (ex_load rfl (by kernel_rfl) (ld3 (bO1_7.1))) ?_
  refine pl_take (.pointer (some ⟨O1, 0, none⟩)) rfl (by kernel_rfl) (by kernel_rfl) (by kernel_rfl) (by kernel_rfl) ?_
  refine pl_take (.pointer (some ⟨O1, 1, none⟩)) rfl (by kernel_rfl) (by kernel_rfl) (by kernel_rfl) (by kernel_rfl) ?_
  refine pl_take (.int .i64 (o.f : Int)) rfl (by kernel_rfl) (by kernel_rfl) (by kernel_rfl) (ex_load rfl (by kernel_rfl) (ld3 (bO1_1.1))) ?_
  refine pl_take (.int .i64 (t + o.f : Int)) rfl (by kernel_rfl) (by kernel_rfl) (by kernel_rfl) (ev_wrap (by kernel_rfl) (by omega) (by omega)) ?_
  refine pl_take (.pointer (some ⟨O1, 0, none⟩)) rfl (by kernel_rfl) (by kernel_rfl) (by kernel_rfl) (by kernel_rfl) ?_
  refine pl_take (.pointer (some ⟨O1, 0, none⟩)) rfl (by kernel_rfl) (by kernel_rfl) (by kernel_rfl) (by kernel_rfl) ?_
  refine pl_take (.int .i64 (o.p : Int)) rfl (by kernel_rfl) (by kernel_rfl) (by kernel_rfl) (ex_load rfl (by kernel_rfl) (ld3 (bO1_0.1))) ?_
  refine pl_step rfl (by kernel_rfl) (by kernel_rfl) (by kernel_rfl) (sn_call (f := 67) (args := #[.int .i64 (t + o.f : Int), .int .i64 (o.p : Int)]) (by kernel_rfl) ((around_c (t + o.f) o.p _ (by omega) (by omega)).mono ?_))
  rintro e w6 ⟨rfl, hb⟩
  replace hE := hE.trans hb
  replace hX5 := hX5.trans hb
  have hs7 := hb.size
  clear hb
  refine ⟨_, rfl, ?_⟩
  refine pl_take (.int .i64 (Orb.ph o t : Int)) rfl (by kernel_rfl) (by kernel_rfl) (by kernel_rfl) (by kernel_rfl) ?_
  refine pl_nil ?_
  refine qw_then ?_
  refine cw_seq ?_
  refine cw_draw [(some 14, [1], []), (some 15, [14], [0]), (some 16, [15], [1]), (some 17, [1], []), (some 18, [17], [3]), (some 19, [18], [4]), (some 20, [1], []), (some 21, [20], [6]), (some 22, [21], [7]), (some 23, [19, 22], [5, 8]), (some 24, [23], [9]), (some 25, [3], []), (some 26, [1], []), (some 27, [26], [12]), (some 28, [27], [13]), (some 29, [3], []), (some 30, [28, 29], [14, 15]), (some 31, [25, 30], [11, 16]), (some 32, [24, 31], [10, 17]), (some 33, [1], []), (some 34, [33], [19]), (some 35, [34], [20]), (some 36, [32, 35], [18, 21]), (some 37, [16, 36], [2, 22]), (some 2, [37], [23, 0, 1, 2, 3, 4, 5, 6, 7, 8, 9, 10, 11, 12, 13, 14, 15, 16, 17, 18, 19, 20, 21, 22, 23])] (fun w' => w'.cell? ⟨O1, 2, none⟩ = some (.int .i64 (o.lo : Int)) ∧ w'.cell? ⟨O1, 3, none⟩ = some (.int .i64 (o.hi : Int)) ∧ w'.cell? ⟨O1, 0, none⟩ = some (.int .i64 (o.p : Int))) (by kernel_rfl) (by kernel_rfl) (by kernel_rfl) (by kernel_rfl) ((calm_then calm_body)) (⟨(BoxAt.ext hX5 bO1_2).1, (BoxAt.ext hX5 bO1_3).1, (BoxAt.ext hX5 bO1_0).1⟩) (fun ops Q X8 hb hL hR hK => ?_)
  replace hE := hE.trans hb
  replace hX5 := hX5.trans hb
  have hs9 := hb.size
  clear hb
  have hS10 := And.intro ((BoxAt.ext hX5 bO1_2).1) (And.intro ((BoxAt.ext hX5 bO1_3).1) ((BoxAt.ext hX5 bO1_0).1))
  refine wd_take 0 (.pointer (some ⟨O1, 0, none⟩)) hR rfl (by kernel_rfl) rfl (by kernel_rfl) (fun w _ => by kernel_rfl) (hS10) ?_
  refine wd_take 1 (.pointer (some ⟨O1, 2, none⟩)) hR rfl (by kernel_rfl) rfl (by kernel_rfl) (fun w _ => by kernel_rfl) (hS10) ?_
  refine wd_take 2 (.int .i64 (o.lo : Int)) hR rfl (by kernel_rfl) rfl (by kernel_rfl) (fun w hS => ex_load rfl (by kernel_rfl) (ld3 (hS.1))) (hS10) ?_
  refine wd_take 3 (.pointer (some ⟨O1, 0, none⟩)) hR rfl (by kernel_rfl) rfl (by kernel_rfl) (fun w _ => by kernel_rfl) (hS10) ?_
  refine wd_take 4 (.pointer (some ⟨O1, 3, none⟩)) hR rfl (by kernel_rfl) rfl (by kernel_rfl) (fun w _ => by kernel_rfl) (hS10) ?_
  refine wd_take 5 (.int .i64 (o.hi : Int)) hR rfl (by kernel_rfl) rfl (by kernel_rfl) (fun w hS => ex_load rfl (by kernel_rfl) (ld3 (hS.2.1))) (hS10) ?_
  refine wd_take 6 (.pointer (some ⟨O1, 0, none⟩)) hR rfl (by kernel_rfl) rfl (by kernel_rfl) (fun w _ => by kernel_rfl) (hS10) ?_
  refine wd_take 7 (.pointer (some ⟨O1, 2, none⟩)) hR rfl (by kernel_rfl) rfl (by kernel_rfl) (fun w _ => by kernel_rfl) (hS10) ?_
  refine wd_take 8 (.int .i64 (o.lo : Int)) hR rfl (by kernel_rfl) rfl (by kernel_rfl) (fun w hS => ex_load rfl (by kernel_rfl) (ld3 (hS.1))) (hS10) ?_
  refine wd_take 9 (.int .i64 (o.hi - o.lo : Int)) hR rfl (by kernel_rfl) rfl (by kernel_rfl) (fun w _ => ev_wrap (by kernel_rfl) (by omega) (by omega)) (hS10) ?_
  refine wd_take 10 (.int .i64 ((o.hi - o.lo) * 2 : Int)) hR rfl (by kernel_rfl) rfl (by kernel_rfl) (fun w _ => ev_wrap (by kernel_rfl) (by omega) (by omega)) (hS10) ?_
  refine wd_take 11 (.int .i64 (Orb.ph o t : Int)) hR rfl (by kernel_rfl) rfl (by kernel_rfl) (fun w _ => by kernel_rfl) (hS10) ?_
  refine wd_take 12 (.pointer (some ⟨O1, 0, none⟩)) hR rfl (by kernel_rfl) rfl (by kernel_rfl) (fun w _ => by kernel_rfl) (hS10) ?_
  refine wd_take 13 (.pointer (some ⟨O1, 0, none⟩)) hR rfl (by kernel_rfl) rfl (by kernel_rfl) (fun w _ => by kernel_rfl) (hS10) ?_
  refine wd_take 14 (.int .i64 (o.p : Int)) hR rfl (by kernel_rfl) rfl (by kernel_rfl) (fun w hS => ex_load rfl (by kernel_rfl) (ld3 (hS.2.2))) (hS10) ?_
  refine wd_take 15 (.int .i64 (Orb.ph o t : Int)) hR rfl (by kernel_rfl) rfl (by kernel_rfl) (fun w _ => by kernel_rfl) (hS10) ?_
  refine wd_take 16 (.int .i64 (o.p - (Orb.ph o t) : Int)) hR rfl (by kernel_rfl) rfl (by kernel_rfl) (fun w _ => ev_wrap (by kernel_rfl) (by omega) (by omega)) (hS10) ?_
  refine wd_take 17 (.int .i64 (Orb.up o t : Int)) hR rfl (by kernel_rfl) rfl (by kernel_rfl) (fun w _ => ev_int (show _ = Result.ok (Next.value (Value.int .i64 (if (o.p - Orb.ph o t) < (Orb.ph o t) then (o.p - Orb.ph o t) else (Orb.ph o t)))) _ from by kernel_rfl) (by unfold Orb.up; split <;> omega)) (hS10) ?_
  refine wd_take 18 (.int .i64 (((o.hi - o.lo) * 2) * (Orb.up o t) : Int)) hR rfl (by kernel_rfl) rfl (by kernel_rfl) (fun w _ => ev_wrap (by kernel_rfl) (by omega) (by omega)) (hS10) ?_
  refine wd_take 19 (.pointer (some ⟨O1, 0, none⟩)) hR rfl (by kernel_rfl) rfl (by kernel_rfl) (fun w _ => by kernel_rfl) (hS10) ?_
  refine wd_take 20 (.pointer (some ⟨O1, 0, none⟩)) hR rfl (by kernel_rfl) rfl (by kernel_rfl) (fun w _ => by kernel_rfl) (hS10) ?_
  refine wd_take 21 (.int .i64 (o.p : Int)) hR rfl (by kernel_rfl) rfl (by kernel_rfl) (fun w hS => ex_load rfl (by kernel_rfl) (ld3 (hS.2.2))) (hS10) ?_
  refine wd_take 22 (.int .i64 ((o.hi - o.lo) * 2 * Orb.up o t / o.p : Int)) hR rfl (by kernel_rfl) rfl (by kernel_rfl) (fun w _ => ev_int (ex_bin (a := (o.hi - o.lo) * 2 * Orb.up o t) (b := o.p) rfl (by kernel_rfl) (by kernel_rfl) (bin_tdiv (by omega) (by omega) (by omega))) (Int.tdiv_eq_ediv_of_nonneg hm0)) (hS10) ?_
  refine wd_take 23 (.int .i64 (Orb.row o t : Int)) hR rfl (by kernel_rfl) rfl (by kernel_rfl) (fun w _ => ev_wrap (show _ = Result.ok (Next.value (Value.int .i64 (IntKind.i64.wrap (Orb.row o t)))) _ from by kernel_rfl) (by omega) (by omega)) (hS10) ?_
  refine wd_take 24 (.int .i64 (Orb.row o t : Int)) hR rfl (by kernel_rfl) rfl (by kernel_rfl) (fun w _ => by kernel_rfl) (hS10) ?_
  refine wd_end hL hR hK (by kernel_rfl) ?_
  refine qw_then ?_
  refine cw_clean [2] (ws' := [(2, .int .i64 (Orb.row o t : Int))]) (by kernel_rfl) (fun L => ?_)
  refine cw_ret ?_
  refine qw_ret [.int .i64 (Orb.row o t : Int)] rfl ⟨(by kernel_rfl), trivial⟩ ?_
  exact ⟨rfl, hE⟩
set_option maxRecDepth 1000000 in
set_option maxHeartbeats 4000000 in
theorem cell_c (o : Orb) (t : Int) (w : World) (hok : Orb.ok o = true) (h0 : -10 ≤ t) (h1 : t ≤ 1000010) : Calls Tryd.prog 24 #[.agg #[.int .i64 o.p, .int .i64 o.f, .int .i64 o.lo, .int .i64 o.hi, .int .i64 o.nd, .int .i64 o.tn, .int .i64 o.sl, .int .i64 t]] w fun e w' => e = .returned (.agg #[.int .i64 ((Orb.cx o t : Nat) : Int), .int .i64 ((Orb.cy o t : Nat) : Int)]) ∧ Ext w w' := by
  have hc := Orb.col_bd (o := o) t
  have hr := Orb.row_bd hok t
  refine calls_cw 10 [(0, .agg #[.int .i64 (o.p : Int), .int .i64 (o.f : Int), .int .i64 (o.lo : Int), .int .i64 (o.hi : Int), .int .i64 (o.nd : Int), .int .i64 (o.tn : Int), .int .i64 (o.sl : Int), .int .i64 (t : Int)])] Tryd.func24 rfl Tryd.ntmps24 (by kernel_rfl) (by kernel_rfl) (fun L => ?_)
  have hE : Ext w w := Ext.refl w
  refine cw_seq ?_
  refine cw_plain ?_
  refine pl_step rfl (by kernel_rfl) (by kernel_rfl) (by kernel_rfl) (sn_new (us := #[.int .i64 (o.p : Int), .int .i64 (o.f : Int), .int .i64 (o.lo : Int), .int .i64 (o.hi : Int), .int .i64 (o.nd : Int), .int .i64 (o.tn : Int), .int .i64 (o.sl : Int), .int .i64 (t : Int)]) (t := 61) (by kernel_rfl) ?_)
  intro O1 X2 hO hOs hb hbx
  have hzO1 := hO; have hyO1 := hOs; clear hO hOs
  have bO1_0 : BoxAt X2 O1 0 (.int .i64 (o.p : Int)) := hbx 0 _ rfl
  have bO1_1 : BoxAt X2 O1 1 (.int .i64 (o.f : Int)) := hbx 1 _ rfl
  have bO1_2 : BoxAt X2 O1 2 (.int .i64 (o.lo : Int)) := hbx 2 _ rfl
  have bO1_3 : BoxAt X2 O1 3 (.int .i64 (o.hi : Int)) := hbx 3 _ rfl
  have bO1_4 : BoxAt X2 O1 4 (.int .i64 (o.nd : Int)) := hbx 4 _ rfl
  have bO1_5 : BoxAt X2 O1 5 (.int .i64 (o.tn : Int)) := hbx 5 _ rfl
  have bO1_6 : BoxAt X2 O1 6 (.int .i64 (o.sl : Int)) := hbx 6 _ rfl
  have bO1_7 : BoxAt X2 O1 7 (.int .i64 (t : Int)) := hbx 7 _ rfl
  clear hbx
  replace hE := hE.trans hb
  have hs3 := hb.size
  clear hb
  have lt4 := bO1_0.lt
  refine pl_step rfl (by kernel_rfl) (by kernel_rfl) (by kernel_rfl) (sn_new (us := #[.int .i64 0, .int .i64 0]) (t := 33) (by kernel_rfl) ?_)
  intro O5 X6 hO hOs hb hbx
  have hzO5 := hO; have hyO5 := hOs; clear hO hOs
  have bO5_0 : BoxAt X6 O5 0 (.int .i64 0) := hbx 0 _ rfl
  have bO5_1 : BoxAt X6 O5 1 (.int .i64 0) := hbx 1 _ rfl
  clear hbx
  replace hE := hE.trans hb
  replace bO1_0 := BoxAt.ext hb bO1_0
  replace bO1_1 := BoxAt.ext hb bO1_1
  replace bO1_2 := BoxAt.ext hb bO1_2
  replace bO1_3 := BoxAt.ext hb bO1_3
  replace bO1_4 := BoxAt.ext hb bO1_4
  replace bO1_5 := BoxAt.ext hb bO1_5
  replace bO1_6 := BoxAt.ext hb bO1_6
  replace bO1_7 := BoxAt.ext hb bO1_7
  have hs7 := hb.size
  clear hb
  have lt8 := bO5_0.lt
  refine pl_nil ?_
  refine qw_then ?_
  refine cw_seq ?_
  have hX9 : Ext X6 X6 := Ext.refl _
  refine cw_draw [(some 3, [1], []), (some 4, [3], [0]), (some 5, [4], [1]), (some 6, [1], []), (some 7, [6], [3, 1]), (some 8, [7], [4]), (some 9, [5, 8], [2, 5]), (none, [2, 9], [6, 4, 0, 1, 2, 3, 4, 5, 6])] (fun w' => w'.cell? ⟨O1, 0, none⟩ = some (.int .i64 (o.p : Int)) ∧ w'.cell? ⟨O1, 1, none⟩ = some (.int .i64 (o.f : Int)) ∧ w'.cell? ⟨O1, 2, none⟩ = some (.int .i64 (o.lo : Int)) ∧ w'.cell? ⟨O1, 3, none⟩ = some (.int .i64 (o.hi : Int)) ∧ w'.cell? ⟨O1, 4, none⟩ = some (.int .i64 (o.nd : Int)) ∧ w'.cell? ⟨O1, 5, none⟩ = some (.int .i64 (o.tn : Int)) ∧ w'.cell? ⟨O1, 6, none⟩ = some (.int .i64 (o.sl : Int)) ∧ w'.cell? ⟨O1, 7, none⟩ = some (.int .i64 (t : Int))) (by kernel_rfl) (by kernel_rfl) (by kernel_rfl) (by kernel_rfl) ((calm_then calm_body)) (⟨bO1_0.1, bO1_1.1, bO1_2.1, bO1_3.1, bO1_4.1, bO1_5.1, bO1_6.1, bO1_7.1⟩) (fun ops Q X10 hb hL hR hK => ?_)
  replace hE := hE.trans hb
  replace hX9 := hX9.trans hb
  have hs11 := hb.size
  clear hb
  have hS12 := And.intro ((BoxAt.ext hX9 bO1_0).1) (And.intro ((BoxAt.ext hX9 bO1_1).1) (And.intro ((BoxAt.ext hX9 bO1_2).1) (And.intro ((BoxAt.ext hX9 bO1_3).1) (And.intro ((BoxAt.ext hX9 bO1_4).1) (And.intro ((BoxAt.ext hX9 bO1_5).1) (And.intro ((BoxAt.ext hX9 bO1_6).1) ((BoxAt.ext hX9 bO1_7).1)))))))
  refine wd_take 0 (.agg #[.int .i64 (o.p : Int), .int .i64 (o.f : Int), .int .i64 (o.lo : Int), .int .i64 (o.hi : Int), .int .i64 (o.nd : Int), .int .i64 (o.tn : Int), .int .i64 (o.sl : Int), .int .i64 (t : Int)]) hR rfl (by kernel_rfl) rfl (by kernel_rfl) (fun w hS => ex_load rfl (by kernel_rfl) (ld61 (hS.1) (hS.2.1) (hS.2.2.1) (hS.2.2.2.1) (hS.2.2.2.2.1) (hS.2.2.2.2.2.1) (hS.2.2.2.2.2.2.1) (hS.2.2.2.2.2.2.2))) (hS12) ?_
  refine wd_take 3 (.agg #[.int .i64 (o.p : Int), .int .i64 (o.f : Int), .int .i64 (o.lo : Int), .int .i64 (o.hi : Int), .int .i64 (o.nd : Int), .int .i64 (o.tn : Int), .int .i64 (o.sl : Int), .int .i64 (t : Int)]) hR rfl (by kernel_rfl) rfl (by kernel_rfl) (fun w hS => ex_load rfl (by kernel_rfl) (ld61 (hS.1) (hS.2.1) (hS.2.2.1) (hS.2.2.2.1) (hS.2.2.2.2.1) (hS.2.2.2.2.2.1) (hS.2.2.2.2.2.2.1) (hS.2.2.2.2.2.2.2))) (hS12) ?_
  refine wd_step 1 hR rfl (by kernel_rfl) (by kernel_rfl) (by kernel_rfl) (sn_call (f := 46) (args := #[.agg #[.int .i64 (o.p : Int), .int .i64 (o.f : Int), .int .i64 (o.lo : Int), .int .i64 (o.hi : Int), .int .i64 (o.nd : Int), .int .i64 (o.tn : Int), .int .i64 (o.sl : Int), .int .i64 (t : Int)]]) (by kernel_rfl) ((column_c o t _ hok (by omega) (by omega)).mono ?_))
  rintro e w13 ⟨rfl, hb⟩
  replace hE := hE.trans hb
  replace hX9 := hX9.trans hb
  have hs14 := hb.size
  clear hb
  have hS15 := And.intro ((BoxAt.ext hX9 bO1_0).1) (And.intro ((BoxAt.ext hX9 bO1_1).1) (And.intro ((BoxAt.ext hX9 bO1_2).1) (And.intro ((BoxAt.ext hX9 bO1_3).1) (And.intro ((BoxAt.ext hX9 bO1_4).1) (And.intro ((BoxAt.ext hX9 bO1_5).1) (And.intro ((BoxAt.ext hX9 bO1_6).1) ((BoxAt.ext hX9 bO1_7).1)))))))
  refine ⟨_, rfl, hS15, ?_⟩
  refine wd_take 2 (.int .i64 (((Orb.cx o t : Nat) : Int) : Int)) hR rfl (by kernel_rfl) rfl (by kernel_rfl) (fun w _ => ev_int (ex_bin (a := Orb.col o t) (b := 1000) rfl (by kernel_rfl) (by kernel_rfl) (bin_tdiv (by omega) (by omega) (by omega))) ((Int.tdiv_eq_ediv_of_nonneg hc.1).trans (Orb.cx_z o t))) (hS15) ?_
  refine wd_step 4 hR rfl (by kernel_rfl) (by kernel_rfl) (by kernel_rfl) (sn_call (f := 47) (args := #[.agg #[.int .i64 (o.p : Int), .int .i64 (o.f : Int), .int .i64 (o.lo : Int), .int .i64 (o.hi : Int), .int .i64 (o.nd : Int), .int .i64 (o.tn : Int), .int .i64 (o.sl : Int), .int .i64 (t : Int)]]) (by kernel_rfl) ((row_c o t _ hok (by omega) (by omega)).mono ?_))
  rintro e w16 ⟨rfl, hb⟩
  replace hE := hE.trans hb
  replace hX9 := hX9.trans hb
  have hs17 := hb.size
  clear hb
  have hS18 := And.intro ((BoxAt.ext hX9 bO1_0).1) (And.intro ((BoxAt.ext hX9 bO1_1).1) (And.intro ((BoxAt.ext hX9 bO1_2).1) (And.intro ((BoxAt.ext hX9 bO1_3).1) (And.intro ((BoxAt.ext hX9 bO1_4).1) (And.intro ((BoxAt.ext hX9 bO1_5).1) (And.intro ((BoxAt.ext hX9 bO1_6).1) ((BoxAt.ext hX9 bO1_7).1)))))))
  refine ⟨_, rfl, hS18, ?_⟩
  refine wd_take 5 (.int .i64 (((Orb.cy o t : Nat) : Int) : Int)) hR rfl (by kernel_rfl) rfl (by kernel_rfl) (fun w _ => ev_int (ex_bin (a := Orb.row o t) (b := 1000) rfl (by kernel_rfl) (by kernel_rfl) (bin_tdiv (by omega) (by omega) (by omega))) ((Int.tdiv_eq_ediv_of_nonneg hr.1).trans (Orb.cy_z hok t))) (hS18) ?_
  refine wd_take 6 (.agg #[.int .i64 (((Orb.cx o t : Nat) : Int) : Int), .int .i64 (((Orb.cy o t : Nat) : Int) : Int)]) hR rfl (by kernel_rfl) rfl (by kernel_rfl) (fun w _ => by kernel_rfl) (hS18) ?_
  have bO1_t20 := (BoxAt.ext hX9 bO1_0)
  have bO1_t21 := (BoxAt.ext hX9 bO1_1)
  have bO1_t22 := (BoxAt.ext hX9 bO1_2)
  have bO1_t23 := (BoxAt.ext hX9 bO1_3)
  have bO1_t24 := (BoxAt.ext hX9 bO1_4)
  have bO1_t25 := (BoxAt.ext hX9 bO1_5)
  have bO1_t26 := (BoxAt.ext hX9 bO1_6)
  have bO1_t27 := (BoxAt.ext hX9 bO1_7)
  have bO5_t28 := (BoxAt.ext hX9 bO5_0)
  have bO5_t29 := (BoxAt.ext hX9 bO5_1)
  refine wd_step 7 hR rfl (by kernel_rfl) (by kernel_rfl) (by kernel_rfl) (sn_set2 (O := O5) (j := 0) (v := .int .i64 (((Orb.cx o t : Nat) : Int) : Int)) (v' := .int .i64 (((Orb.cy o t : Nat) : Int) : Int)) (ex_store (p := .pointer (some ⟨O5, 0, none⟩)) (v := .agg #[.int .i64 (((Orb.cx o t : Nat) : Int) : Int), .int .i64 (((Orb.cy o t : Nat) : Int) : Int)]) rfl (by kernel_rfl) (by kernel_rfl) (st33 bO5_t28.1 bO5_t28.2 bO5_t29.1 bO5_t29.2)) bO5_t28 bO5_t29 ?_)
  intro X19 ho hv0 hv1 hk
  replace hE := ho.ext hE (Nat.le_trans hs3 (Nat.le_of_eq hzO5))
  replace bO1_t20 := ho.box (Nat.ne_of_gt (Nat.lt_of_lt_of_le lt4 (Nat.le_of_eq hzO5))) bO1_t20
  replace bO1_t21 := ho.box (Nat.ne_of_gt (Nat.lt_of_lt_of_le lt4 (Nat.le_of_eq hzO5))) bO1_t21
  replace bO1_t22 := ho.box (Nat.ne_of_gt (Nat.lt_of_lt_of_le lt4 (Nat.le_of_eq hzO5))) bO1_t22
  replace bO1_t23 := ho.box (Nat.ne_of_gt (Nat.lt_of_lt_of_le lt4 (Nat.le_of_eq hzO5))) bO1_t23
  replace bO1_t24 := ho.box (Nat.ne_of_gt (Nat.lt_of_lt_of_le lt4 (Nat.le_of_eq hzO5))) bO1_t24
  replace bO1_t25 := ho.box (Nat.ne_of_gt (Nat.lt_of_lt_of_le lt4 (Nat.le_of_eq hzO5))) bO1_t25
  replace bO1_t26 := ho.box (Nat.ne_of_gt (Nat.lt_of_lt_of_le lt4 (Nat.le_of_eq hzO5))) bO1_t26
  replace bO1_t27 := ho.box (Nat.ne_of_gt (Nat.lt_of_lt_of_le lt4 (Nat.le_of_eq hzO5))) bO1_t27
  have hs30 : w16.heap.size ≤ X19.heap.size := Nat.le_of_eq ho.size.symm
  clear ho hk bO5_t28 bO5_t29
  have bO5_t28 := hv0; clear hv0
  have bO5_t29 := hv1; clear hv1
  have hS31 := And.intro (bO1_t20.1) (And.intro (bO1_t21.1) (And.intro (bO1_t22.1) (And.intro (bO1_t23.1) (And.intro (bO1_t24.1) (And.intro (bO1_t25.1) (And.intro (bO1_t26.1) (bO1_t27.1)))))))
  refine ⟨hS31, ?_⟩
  refine wd_end hL hR hK (by kernel_rfl) ?_
  refine qw_then ?_
  refine cw_ret ?_
  refine qw_ret [.agg #[.int .i64 (((Orb.cx o t : Nat) : Int) : Int), .int .i64 (((Orb.cy o t : Nat) : Int) : Int)]] rfl ⟨⟨_, by kernel_rfl, res_ld (ld33 (bO5_t28.1) (bO5_t29.1))⟩, trivial⟩ ?_
  exact ⟨rfl, hE⟩
set_option maxRecDepth 1000000 in
set_option maxHeartbeats 4000000 in
theorem at_y (o : Orb) (t d : Int) (w : World) (hat : Orb.atB o t d = true) : Calls Tryd.prog 23 #[.agg #[.int .i64 o.p, .int .i64 o.f, .int .i64 o.lo, .int .i64 o.hi, .int .i64 o.nd, .int .i64 o.tn, .int .i64 o.sl], .int .i64 t, .int .i64 d] w fun e w' => e = .returned (.tuple #[.agg #[.int .i64 o.p, .int .i64 o.f, .int .i64 o.lo, .int .i64 o.hi, .int .i64 o.nd, .int .i64 o.tn, .int .i64 o.sl, .int .i64 (t - d)], .bool true]) ∧ Ext w w' := by
  replace hat : (Globe.inB t 0 1000000 = true ∧ Globe.inB d (-10) 10 = true) ∧ Orb.ok o = true := by simpa [Orb.atB] using hat
  have h1 := Globe.inB_t.1 hat.1.1
  have h2 := Globe.inB_t.1 hat.1.2
  refine calls_cw 25 [(2, .int .i64 (d : Int)), (1, .int .i64 (t : Int)), (0, .agg #[.int .i64 (o.p : Int), .int .i64 (o.f : Int), .int .i64 (o.lo : Int), .int .i64 (o.hi : Int), .int .i64 (o.nd : Int), .int .i64 (o.tn : Int), .int .i64 (o.sl : Int)])] Tryd.func23 rfl Tryd.ntmps23 (by kernel_rfl) (by kernel_rfl) (fun L => ?_)
  have hE : Ext w w := Ext.refl w
  refine cw_seq ?_
  refine cw_plain ?_
  refine pl_step rfl (by kernel_rfl) (by kernel_rfl) (by kernel_rfl) (sn_new (us := #[.int .i64 (o.p : Int), .int .i64 (o.f : Int), .int .i64 (o.lo : Int), .int .i64 (o.hi : Int), .int .i64 (o.nd : Int), .int .i64 (o.tn : Int), .int .i64 (o.sl : Int)]) (t := 26) (by kernel_rfl) ?_)
  intro O1 X2 hO hOs hb hbx
  have hzO1 := hO; have hyO1 := hOs; clear hO hOs
  have bO1_0 : BoxAt X2 O1 0 (.int .i64 (o.p : Int)) := hbx 0 _ rfl
  have bO1_1 : BoxAt X2 O1 1 (.int .i64 (o.f : Int)) := hbx 1 _ rfl
  have bO1_2 : BoxAt X2 O1 2 (.int .i64 (o.lo : Int)) := hbx 2 _ rfl
  have bO1_3 : BoxAt X2 O1 3 (.int .i64 (o.hi : Int)) := hbx 3 _ rfl
  have bO1_4 : BoxAt X2 O1 4 (.int .i64 (o.nd : Int)) := hbx 4 _ rfl
  have bO1_5 : BoxAt X2 O1 5 (.int .i64 (o.tn : Int)) := hbx 5 _ rfl
  have bO1_6 : BoxAt X2 O1 6 (.int .i64 (o.sl : Int)) := hbx 6 _ rfl
  clear hbx
  replace hE := hE.trans hb
  have hs3 := hb.size
  clear hb
  have lt4 := bO1_0.lt
  refine pl_step rfl (by kernel_rfl) (by kernel_rfl) (by kernel_rfl) (sn_new (us := #[.int .i64 0, .int .i64 0, .int .i64 0, .int .i64 0, .int .i64 0, .int .i64 0, .int .i64 0, .int .i64 0]) (t := 61) (by kernel_rfl) ?_)
  intro O5 X6 hO hOs hb hbx
  have hzO5 := hO; have hyO5 := hOs; clear hO hOs
  have bO5_0 : BoxAt X6 O5 0 (.int .i64 0) := hbx 0 _ rfl
  have bO5_1 : BoxAt X6 O5 1 (.int .i64 0) := hbx 1 _ rfl
  have bO5_2 : BoxAt X6 O5 2 (.int .i64 0) := hbx 2 _ rfl
  have bO5_3 : BoxAt X6 O5 3 (.int .i64 0) := hbx 3 _ rfl
  have bO5_4 : BoxAt X6 O5 4 (.int .i64 0) := hbx 4 _ rfl
  have bO5_5 : BoxAt X6 O5 5 (.int .i64 0) := hbx 5 _ rfl
  have bO5_6 : BoxAt X6 O5 6 (.int .i64 0) := hbx 6 _ rfl
  have bO5_7 : BoxAt X6 O5 7 (.int .i64 0) := hbx 7 _ rfl
  clear hbx
  replace hE := hE.trans hb
  replace bO1_0 := BoxAt.ext hb bO1_0
  replace bO1_1 := BoxAt.ext hb bO1_1
  replace bO1_2 := BoxAt.ext hb bO1_2
  replace bO1_3 := BoxAt.ext hb bO1_3
  replace bO1_4 := BoxAt.ext hb bO1_4
  replace bO1_5 := BoxAt.ext hb bO1_5
  replace bO1_6 := BoxAt.ext hb bO1_6
  have hs7 := hb.size
  clear hb
  have lt8 := bO5_0.lt
  refine pl_take (.bool false) rfl (by kernel_rfl) (by kernel_rfl) (by kernel_rfl) (by kernel_rfl) ?_
  refine pl_nil ?_
  refine qw_then ?_
  refine cw_seq ?_
  have hX9 : Ext X6 X6 := Ext.refl _
  refine cw_plain ?_
  refine pl_take (.int .i64 (t : Int)) rfl (by kernel_rfl) (by kernel_rfl) (by kernel_rfl) (by kernel_rfl) ?_
  refine pl_step rfl (by kernel_rfl) (by kernel_rfl) (by kernel_rfl) (sn_call (f := 45) (args := #[.int .i64 (t : Int), .int .i64 0, .int .i64 1000000]) (by kernel_rfl) ((orbit_in_r (r := true) t 0 1000000 _ (hat.1.1)).mono ?_))
  rintro e w10 ⟨rfl, hb⟩
  replace hE := hE.trans hb
  replace hX9 := hX9.trans hb
  have hs11 := hb.size
  clear hb
  refine ⟨_, rfl, ?_⟩
  refine pl_take (.bool true) rfl (by kernel_rfl) (by kernel_rfl) (by kernel_rfl) (by kernel_rfl) ?_
  refine pl_take (.int .i64 (d : Int)) rfl (by kernel_rfl) (by kernel_rfl) (by kernel_rfl) (by kernel_rfl) ?_
  refine pl_step rfl (by kernel_rfl) (by kernel_rfl) (by kernel_rfl) (sn_call (f := 45) (args := #[.int .i64 (d : Int), .int .i64 (-10 : Int), .int .i64 10]) (by kernel_rfl) ((orbit_in_r (r := true) d (-10) 10 _ (hat.1.2)).mono ?_))
  rintro e w12 ⟨rfl, hb⟩
  replace hE := hE.trans hb
  replace hX9 := hX9.trans hb
  have hs13 := hb.size
  clear hb
  refine ⟨_, rfl, ?_⟩
  refine pl_take (.bool true) rfl (by kernel_rfl) (by kernel_rfl) (by kernel_rfl) (by kernel_rfl) ?_
  refine pl_take (.bool true) rfl (by kernel_rfl) (by kernel_rfl) (by kernel_rfl) (by kernel_rfl) ?_
  refine pl_take (.agg #[.int .i64 (o.p : Int), .int .i64 (o.f : Int), .int .i64 (o.lo : Int), .int .i64 (o.hi : Int), .int .i64 (o.nd : Int), .int .i64 (o.tn : Int), .int .i64 (o.sl : Int)]) rfl (by kernel_rfl) (by kernel_rfl) (by kernel_rfl) (ex_load rfl (by kernel_rfl) (ld26 ((BoxAt.ext hX9 bO1_0).1) ((BoxAt.ext hX9 bO1_1).1) ((BoxAt.ext hX9 bO1_2).1) ((BoxAt.ext hX9 bO1_3).1) ((BoxAt.ext hX9 bO1_4).1) ((BoxAt.ext hX9 bO1_5).1) ((BoxAt.ext hX9 bO1_6).1))) ?_
  refine pl_step rfl (by kernel_rfl) (by kernel_rfl) (by kernel_rfl) (sn_call (f := 35) (args := #[.agg #[.int .i64 (o.p : Int), .int .i64 (o.f : Int), .int .i64 (o.lo : Int), .int .i64 (o.hi : Int), .int .i64 (o.nd : Int), .int .i64 (o.tn : Int), .int .i64 (o.sl : Int)]]) (by kernel_rfl) ((oValid_r (r := true) _ (hat.2)).mono ?_))
  rintro e w14 ⟨rfl, hb⟩
  replace hE := hE.trans hb
  replace hX9 := hX9.trans hb
  have hs15 := hb.size
  clear hb
  refine ⟨_, rfl, ?_⟩
  refine pl_take (.bool true) rfl (by kernel_rfl) (by kernel_rfl) (by kernel_rfl) (by kernel_rfl) ?_
  refine pl_take (.bool true) rfl (by kernel_rfl) (by kernel_rfl) (by kernel_rfl) (by kernel_rfl) ?_
  refine pl_nil ?_
  refine qw_then ?_
  refine cw_clean [1, 2, 3, 6, 8] (ws' := [(1, .int .i64 (t : Int)), (2, .int .i64 (d : Int)), (3, .pointer (some ⟨O1, 0, none⟩)), (6, .pointer (some ⟨O5, 0, none⟩)), (8, .bool true)]) (by kernel_rfl) (fun L => ?_)
  refine cw_seq ?_
  refine cw_plain ?_
  refine pl_take (.agg #[.int .i64 (o.p : Int), .int .i64 (o.f : Int), .int .i64 (o.lo : Int), .int .i64 (o.hi : Int), .int .i64 (o.nd : Int), .int .i64 (o.tn : Int), .int .i64 (o.sl : Int)]) rfl (by kernel_rfl) (by kernel_rfl) (by kernel_rfl) (ex_load rfl (by kernel_rfl) (ld26 ((BoxAt.ext hX9 bO1_0).1) ((BoxAt.ext hX9 bO1_1).1) ((BoxAt.ext hX9 bO1_2).1) ((BoxAt.ext hX9 bO1_3).1) ((BoxAt.ext hX9 bO1_4).1) ((BoxAt.ext hX9 bO1_5).1) ((BoxAt.ext hX9 bO1_6).1))) ?_
  refine pl_take (.int .i64 (t : Int)) rfl (by kernel_rfl) (by kernel_rfl) (by kernel_rfl) (by kernel_rfl) ?_
  refine pl_take (.int .i64 (d : Int)) rfl (by kernel_rfl) (by kernel_rfl) (by kernel_rfl) (by kernel_rfl) ?_
  refine pl_take (.int .i64 (t - d : Int)) rfl (by kernel_rfl) (by kernel_rfl) (by kernel_rfl) (ev_wrap (by kernel_rfl) (by omega) (by omega)) ?_
  refine pl_take (.agg #[.int .i64 (o.p : Int), .int .i64 (o.f : Int), .int .i64 (o.lo : Int), .int .i64 (o.hi : Int), .int .i64 (o.nd : Int), .int .i64 (o.tn : Int), .int .i64 (o.sl : Int), .int .i64 (t - d : Int)]) rfl (by kernel_rfl) (by kernel_rfl) (by kernel_rfl) (by kernel_rfl) ?_
  refine pl_take (.bool true) rfl (by kernel_rfl) (by kernel_rfl) (by kernel_rfl) (by kernel_rfl) ?_
  have bO1_t17 := (BoxAt.ext hX9 bO1_0)
  have bO1_t18 := (BoxAt.ext hX9 bO1_1)
  have bO1_t19 := (BoxAt.ext hX9 bO1_2)
  have bO1_t20 := (BoxAt.ext hX9 bO1_3)
  have bO1_t21 := (BoxAt.ext hX9 bO1_4)
  have bO1_t22 := (BoxAt.ext hX9 bO1_5)
  have bO1_t23 := (BoxAt.ext hX9 bO1_6)
  have bO5_t24 := (BoxAt.ext hX9 bO5_0)
  have bO5_t25 := (BoxAt.ext hX9 bO5_1)
  have bO5_t26 := (BoxAt.ext hX9 bO5_2)
  have bO5_t27 := (BoxAt.ext hX9 bO5_3)
  have bO5_t28 := (BoxAt.ext hX9 bO5_4)
  have bO5_t29 := (BoxAt.ext hX9 bO5_5)
  have bO5_t30 := (BoxAt.ext hX9 bO5_6)
  have bO5_t31 := (BoxAt.ext hX9 bO5_7)
  refine pl_put rfl (by kernel_rfl) (by kernel_rfl) (sn_setK8 (O := O5) (j := 0) (v0 := .int .i64 (o.p : Int)) (v1 := .int .i64 (o.f : Int)) (v2 := .int .i64 (o.lo : Int)) (v3 := .int .i64 (o.hi : Int)) (v4 := .int .i64 (o.nd : Int)) (v5 := .int .i64 (o.tn : Int)) (v6 := .int .i64 (o.sl : Int)) (v7 := .int .i64 (t - d : Int)) (ex_store (p := .pointer (some ⟨O5, 0, none⟩)) (v := .agg #[.int .i64 (o.p : Int), .int .i64 (o.f : Int), .int .i64 (o.lo : Int), .int .i64 (o.hi : Int), .int .i64 (o.nd : Int), .int .i64 (o.tn : Int), .int .i64 (o.sl : Int), .int .i64 (t - d : Int)]) rfl (by kernel_rfl) (by kernel_rfl) (st61 bO5_t24.1 bO5_t24.2 bO5_t25.1 bO5_t25.2 bO5_t26.1 bO5_t26.2 bO5_t27.1 bO5_t27.2 bO5_t28.1 bO5_t28.2 bO5_t29.1 bO5_t29.2 bO5_t30.1 bO5_t30.2 bO5_t31.1 bO5_t31.2)) bO5_t24 bO5_t25 bO5_t26 bO5_t27 bO5_t28 bO5_t29 bO5_t30 bO5_t31 ?_)
  intro X16 ho hv0 hv1 hv2 hv3 hv4 hv5 hv6 hv7 hk
  replace hE := ho.ext hE (Nat.le_trans hs3 (Nat.le_of_eq hzO5))
  replace bO1_t17 := ho.box (Nat.ne_of_gt (Nat.lt_of_lt_of_le lt4 (Nat.le_of_eq hzO5))) bO1_t17
  replace bO1_t18 := ho.box (Nat.ne_of_gt (Nat.lt_of_lt_of_le lt4 (Nat.le_of_eq hzO5))) bO1_t18
  replace bO1_t19 := ho.box (Nat.ne_of_gt (Nat.lt_of_lt_of_le lt4 (Nat.le_of_eq hzO5))) bO1_t19
  replace bO1_t20 := ho.box (Nat.ne_of_gt (Nat.lt_of_lt_of_le lt4 (Nat.le_of_eq hzO5))) bO1_t20
  replace bO1_t21 := ho.box (Nat.ne_of_gt (Nat.lt_of_lt_of_le lt4 (Nat.le_of_eq hzO5))) bO1_t21
  replace bO1_t22 := ho.box (Nat.ne_of_gt (Nat.lt_of_lt_of_le lt4 (Nat.le_of_eq hzO5))) bO1_t22
  replace bO1_t23 := ho.box (Nat.ne_of_gt (Nat.lt_of_lt_of_le lt4 (Nat.le_of_eq hzO5))) bO1_t23
  have hs32 : w14.heap.size ≤ X16.heap.size := Nat.le_of_eq ho.size.symm
  clear ho hk bO5_t24 bO5_t25 bO5_t26 bO5_t27 bO5_t28 bO5_t29 bO5_t30 bO5_t31
  have bO5_t24 := hv0; clear hv0
  have bO5_t25 := hv1; clear hv1
  have bO5_t26 := hv2; clear hv2
  have bO5_t27 := hv3; clear hv3
  have bO5_t28 := hv4; clear hv4
  have bO5_t29 := hv5; clear hv5
  have bO5_t30 := hv6; clear hv6
  have bO5_t31 := hv7; clear hv7
  refine pl_take (.bool true) rfl (by kernel_rfl) (by kernel_rfl) (by kernel_rfl) (by kernel_rfl) ?_
  refine pl_nil ?_
  refine qw_then ?_
  refine cw_ret ?_
  refine qw_ret [.agg #[.int .i64 (o.p : Int), .int .i64 (o.f : Int), .int .i64 (o.lo : Int), .int .i64 (o.hi : Int), .int .i64 (o.nd : Int), .int .i64 (o.tn : Int), .int .i64 (o.sl : Int), .int .i64 (t - d : Int)], .bool true] rfl ⟨⟨_, by kernel_rfl, res_ld (ld61 (bO5_t24.1) (bO5_t25.1) (bO5_t26.1) (bO5_t27.1) (bO5_t28.1) (bO5_t29.1) (bO5_t30.1) (bO5_t31.1))⟩, (by kernel_rfl), trivial⟩ ?_
  exact ⟨rfl, hE⟩
set_option maxRecDepth 1000000 in
set_option maxHeartbeats 4000000 in
theorem At_y (o : Orb) (t d : Int) (w : World) (hat : Orb.atB o t d = true) : Calls Tryd.prog 8 #[.agg #[.int .i64 o.p, .int .i64 o.f, .int .i64 o.lo, .int .i64 o.hi, .int .i64 o.nd, .int .i64 o.tn, .int .i64 o.sl], .int .i64 t, .int .i64 d] w fun e w' => e = .returned (.tuple #[.agg #[.int .i64 ((Orb.cx o (t - d) : Nat) : Int), .int .i64 ((Orb.cy o (t - d) : Nat) : Int)], .int .i64 0]) ∧ Ext w w' := by
  have ha9 : (Globe.inB t 0 1000000 = true ∧ Globe.inB d (-10) 10 = true) ∧ Orb.ok o = true := by simpa [Orb.atB] using hat
  have h1 := Globe.inB_t.1 ha9.1.1
  have h2 := Globe.inB_t.1 ha9.1.2
  have hok := ha9.2
  refine calls_cw 22 [(2, .int .i64 (d : Int)), (1, .int .i64 (t : Int)), (0, .agg #[.int .i64 (o.p : Int), .int .i64 (o.f : Int), .int .i64 (o.lo : Int), .int .i64 (o.hi : Int), .int .i64 (o.nd : Int), .int .i64 (o.tn : Int), .int .i64 (o.sl : Int)])] Tryd.func8 rfl Tryd.ntmps8 (by kernel_rfl) (by kernel_rfl) (fun L => ?_)
  have hE : Ext w w := Ext.refl w
  refine cw_seq ?_
  refine cw_plain ?_
  refine pl_step rfl (by kernel_rfl) (by kernel_rfl) (by kernel_rfl) (sn_new (us := #[.int .i64 (o.p : Int), .int .i64 (o.f : Int), .int .i64 (o.lo : Int), .int .i64 (o.hi : Int), .int .i64 (o.nd : Int), .int .i64 (o.tn : Int), .int .i64 (o.sl : Int)]) (t := 26) (by kernel_rfl) ?_)
  intro O1 X2 hO hOs hb hbx
  have hzO1 := hO; have hyO1 := hOs; clear hO hOs
  have bO1_0 : BoxAt X2 O1 0 (.int .i64 (o.p : Int)) := hbx 0 _ rfl
  have bO1_1 : BoxAt X2 O1 1 (.int .i64 (o.f : Int)) := hbx 1 _ rfl
  have bO1_2 : BoxAt X2 O1 2 (.int .i64 (o.lo : Int)) := hbx 2 _ rfl
  have bO1_3 : BoxAt X2 O1 3 (.int .i64 (o.hi : Int)) := hbx 3 _ rfl
  have bO1_4 : BoxAt X2 O1 4 (.int .i64 (o.nd : Int)) := hbx 4 _ rfl
  have bO1_5 : BoxAt X2 O1 5 (.int .i64 (o.tn : Int)) := hbx 5 _ rfl
  have bO1_6 : BoxAt X2 O1 6 (.int .i64 (o.sl : Int)) := hbx 6 _ rfl
  clear hbx
  replace hE := hE.trans hb
  have hs3 := hb.size
  clear hb
  have lt4 := bO1_0.lt
  refine pl_step rfl (by kernel_rfl) (by kernel_rfl) (by kernel_rfl) (sn_new (us := #[.int .i64 0, .int .i64 0]) (t := 33) (by kernel_rfl) ?_)
  intro O5 X6 hO hOs hb hbx
  have hzO5 := hO; have hyO5 := hOs; clear hO hOs
  have bO5_0 : BoxAt X6 O5 0 (.int .i64 0) := hbx 0 _ rfl
  have bO5_1 : BoxAt X6 O5 1 (.int .i64 0) := hbx 1 _ rfl
  clear hbx
  replace hE := hE.trans hb
  replace bO1_0 := BoxAt.ext hb bO1_0
  replace bO1_1 := BoxAt.ext hb bO1_1
  replace bO1_2 := BoxAt.ext hb bO1_2
  replace bO1_3 := BoxAt.ext hb bO1_3
  replace bO1_4 := BoxAt.ext hb bO1_4
  replace bO1_5 := BoxAt.ext hb bO1_5
  replace bO1_6 := BoxAt.ext hb bO1_6
  have hs7 := hb.size
  clear hb
  have lt8 := bO5_0.lt
  refine pl_take (.int .i64 0) rfl (by kernel_rfl) (by kernel_rfl) (by kernel_rfl) (by kernel_rfl) ?_
  refine pl_nil ?_
  refine qw_then ?_
  refine cw_seq ?_
  have hX9 : Ext X6 X6 := Ext.refl _
  refine cw_plain ?_
  refine pl_take (.agg #[.int .i64 (o.p : Int), .int .i64 (o.f : Int), .int .i64 (o.lo : Int), .int .i64 (o.hi : Int), .int .i64 (o.nd : Int), .int .i64 (o.tn : Int), .int .i64 (o.sl : Int)]) rfl (by kernel_rfl) (by kernel_rfl) (by kernel_rfl) (ex_load rfl (by kernel_rfl) (ld26 (bO1_0.1) (bO1_1.1) (bO1_2.1) (bO1_3.1) (bO1_4.1) (bO1_5.1) (bO1_6.1))) ?_
  refine pl_take (.int .i64 (t : Int)) rfl (by kernel_rfl) (by kernel_rfl) (by kernel_rfl) (by kernel_rfl) ?_
  refine pl_take (.int .i64 (d : Int)) rfl (by kernel_rfl) (by kernel_rfl) (by kernel_rfl) (by kernel_rfl) ?_
  refine pl_step rfl (by kernel_rfl) (by kernel_rfl) (by kernel_rfl) (sn_call (f := 23) (args := #[.agg #[.int .i64 (o.p : Int), .int .i64 (o.f : Int), .int .i64 (o.lo : Int), .int .i64 (o.hi : Int), .int .i64 (o.nd : Int), .int .i64 (o.tn : Int), .int .i64 (o.sl : Int)], .int .i64 (t : Int), .int .i64 (d : Int)]) (by kernel_rfl) ((at_y o t d _ (hat)).mono ?_))
  rintro e w10 ⟨rfl, hb⟩
  replace hE := hE.trans hb
  replace hX9 := hX9.trans hb
  have hs11 := hb.size
  clear hb
  refine ⟨_, rfl, ?_⟩
  refine pl_take (.tuple #[.agg #[.int .i64 (o.p : Int), .int .i64 (o.f : Int), .int .i64 (o.lo : Int), .int .i64 (o.hi : Int), .int .i64 (o.nd : Int), .int .i64 (o.tn : Int), .int .i64 (o.sl : Int), .int .i64 (t - d : Int)], .bool true]) rfl (by kernel_rfl) (by kernel_rfl) (by kernel_rfl) (by kernel_rfl) ?_
  refine pl_take (.agg #[.int .i64 (o.p : Int), .int .i64 (o.f : Int), .int .i64 (o.lo : Int), .int .i64 (o.hi : Int), .int .i64 (o.nd : Int), .int .i64 (o.tn : Int), .int .i64 (o.sl : Int), .int .i64 (t - d : Int)]) rfl (by kernel_rfl) (by kernel_rfl) (by kernel_rfl) (by kernel_rfl) ?_
  refine pl_take (.bool true) rfl (by kernel_rfl) (by kernel_rfl) (by kernel_rfl) (by kernel_rfl) ?_
  refine pl_step rfl (by kernel_rfl) (by kernel_rfl) (by kernel_rfl) (sn_new (us := #[.int .i64 0, .int .i64 0, .int .i64 0, .int .i64 0, .int .i64 0, .int .i64 0, .int .i64 0, .int .i64 0]) (t := 61) (by kernel_rfl) ?_)
  intro O12 X13 hO hOs hb hbx
  have hzO12 := hO; have hyO12 := hOs; clear hO hOs
  have bO12_0 : BoxAt X13 O12 0 (.int .i64 0) := hbx 0 _ rfl
  have bO12_1 : BoxAt X13 O12 1 (.int .i64 0) := hbx 1 _ rfl
  have bO12_2 : BoxAt X13 O12 2 (.int .i64 0) := hbx 2 _ rfl
  have bO12_3 : BoxAt X13 O12 3 (.int .i64 0) := hbx 3 _ rfl
  have bO12_4 : BoxAt X13 O12 4 (.int .i64 0) := hbx 4 _ rfl
  have bO12_5 : BoxAt X13 O12 5 (.int .i64 0) := hbx 5 _ rfl
  have bO12_6 : BoxAt X13 O12 6 (.int .i64 0) := hbx 6 _ rfl
  have bO12_7 : BoxAt X13 O12 7 (.int .i64 0) := hbx 7 _ rfl
  clear hbx
  replace hE := hE.trans hb
  replace hX9 := hX9.trans hb
  have hs14 := hb.size
  clear hb
  have lt15 := bO12_0.lt
  refine pl_put rfl (by kernel_rfl) (by kernel_rfl) (sn_setK8 (O := O12) (j := 0) (v0 := .int .i64 (o.p : Int)) (v1 := .int .i64 (o.f : Int)) (v2 := .int .i64 (o.lo : Int)) (v3 := .int .i64 (o.hi : Int)) (v4 := .int .i64 (o.nd : Int)) (v5 := .int .i64 (o.tn : Int)) (v6 := .int .i64 (o.sl : Int)) (v7 := .int .i64 (t - d : Int)) (ex_store (p := .pointer (some ⟨O12, 0, none⟩)) (v := .agg #[.int .i64 (o.p : Int), .int .i64 (o.f : Int), .int .i64 (o.lo : Int), .int .i64 (o.hi : Int), .int .i64 (o.nd : Int), .int .i64 (o.tn : Int), .int .i64 (o.sl : Int), .int .i64 (t - d : Int)]) rfl (by kernel_rfl) (by kernel_rfl) (st61 bO12_0.1 bO12_0.2 bO12_1.1 bO12_1.2 bO12_2.1 bO12_2.2 bO12_3.1 bO12_3.2 bO12_4.1 bO12_4.2 bO12_5.1 bO12_5.2 bO12_6.1 bO12_6.2 bO12_7.1 bO12_7.2)) bO12_0 bO12_1 bO12_2 bO12_3 bO12_4 bO12_5 bO12_6 bO12_7 ?_)
  intro X16 ho hv0 hv1 hv2 hv3 hv4 hv5 hv6 hv7 hk
  replace hE := ho.ext hE (Nat.le_trans (Nat.le_trans hs3 (Nat.le_trans hs7 hs11)) (Nat.le_of_eq hzO12))
  replace hX9 := ho.ext hX9 (Nat.le_trans hs11 (Nat.le_of_eq hzO12))
  have hs17 : X13.heap.size ≤ X16.heap.size := Nat.le_of_eq ho.size.symm
  clear ho hk bO12_0 bO12_1 bO12_2 bO12_3 bO12_4 bO12_5 bO12_6 bO12_7
  have bO12_0 := hv0; clear hv0
  have bO12_1 := hv1; clear hv1
  have bO12_2 := hv2; clear hv2
  have bO12_3 := hv3; clear hv3
  have bO12_4 := hv4; clear hv4
  have bO12_5 := hv5; clear hv5
  have bO12_6 := hv6; clear hv6
  have bO12_7 := hv7; clear hv7
  refine pl_take (.bool true) rfl (by kernel_rfl) (by kernel_rfl) (by kernel_rfl) (by kernel_rfl) ?_
  refine pl_nil ?_
  refine qw_then ?_
  refine cw_clean [6, 8, 9] (ws' := [(6, .pointer (some ⟨O5, 0, none⟩)), (8, .pointer (some ⟨O12, 0, none⟩)), (9, .bool true)]) (by kernel_rfl) (fun L => ?_)
  refine cw_seq ?_
  refine cw_seq ?_
  have hX18 : Ext X16 X16 := Ext.refl _
  refine cw_plain ?_
  refine pl_take (.bool true) rfl (by kernel_rfl) (by kernel_rfl) (by kernel_rfl) (by kernel_rfl) ?_
  refine pl_take (.bool false) rfl (by kernel_rfl) (by kernel_rfl) (by kernel_rfl) (by kernel_rfl) ?_
  refine pl_nil ?_
  refine qw_then ?_
  refine cw_f (by kernel_rfl) ?_
  refine cw_skip ?_
  refine qw_then ?_
  refine cw_seq ?_
  refine cw_plain ?_
  refine pl_take (.agg #[.int .i64 (o.p : Int), .int .i64 (o.f : Int), .int .i64 (o.lo : Int), .int .i64 (o.hi : Int), .int .i64 (o.nd : Int), .int .i64 (o.tn : Int), .int .i64 (o.sl : Int), .int .i64 (t - d : Int)]) rfl (by kernel_rfl) (by kernel_rfl) (by kernel_rfl) (ex_load rfl (by kernel_rfl) (ld61 (bO12_0.1) (bO12_1.1) (bO12_2.1) (bO12_3.1) (bO12_4.1) (bO12_5.1) (bO12_6.1) (bO12_7.1))) ?_
  refine pl_step rfl (by kernel_rfl) (by kernel_rfl) (by kernel_rfl) (sn_call (f := 24) (args := #[.agg #[.int .i64 (o.p : Int), .int .i64 (o.f : Int), .int .i64 (o.lo : Int), .int .i64 (o.hi : Int), .int .i64 (o.nd : Int), .int .i64 (o.tn : Int), .int .i64 (o.sl : Int), .int .i64 (t - d : Int)]]) (by kernel_rfl) ((cell_c o (t - d) _ hok (by omega) (by omega)).mono ?_))
  rintro e w19 ⟨rfl, hb⟩
  replace hE := hE.trans hb
  replace hX18 := hX18.trans hb
  have hs20 := hb.size
  clear hb
  refine ⟨_, rfl, ?_⟩
  have bO1_t22 := (BoxAt.ext (hX9.trans hX18) bO1_0)
  have bO1_t23 := (BoxAt.ext (hX9.trans hX18) bO1_1)
  have bO1_t24 := (BoxAt.ext (hX9.trans hX18) bO1_2)
  have bO1_t25 := (BoxAt.ext (hX9.trans hX18) bO1_3)
  have bO1_t26 := (BoxAt.ext (hX9.trans hX18) bO1_4)
  have bO1_t27 := (BoxAt.ext (hX9.trans hX18) bO1_5)
  have bO1_t28 := (BoxAt.ext (hX9.trans hX18) bO1_6)
  have bO5_t29 := (BoxAt.ext (hX9.trans hX18) bO5_0)
  have bO5_t30 := (BoxAt.ext (hX9.trans hX18) bO5_1)
  have bO12_t31 := (BoxAt.ext hX18 bO12_0)
  have bO12_t32 := (BoxAt.ext hX18 bO12_1)
  have bO12_t33 := (BoxAt.ext hX18 bO12_2)
  have bO12_t34 := (BoxAt.ext hX18 bO12_3)
  have bO12_t35 := (BoxAt.ext hX18 bO12_4)
  have bO12_t36 := (BoxAt.ext hX18 bO12_5)
  have bO12_t37 := (BoxAt.ext hX18 bO12_6)
  have bO12_t38 := (BoxAt.ext hX18 bO12_7)
  refine pl_put rfl (by kernel_rfl) (by kernel_rfl) (sn_set2 (O := O5) (j := 0) (v := .int .i64 (((Orb.cx o (t - d) : Nat) : Int) : Int)) (v' := .int .i64 (((Orb.cy o (t - d) : Nat) : Int) : Int)) (ex_store (p := .pointer (some ⟨O5, 0, none⟩)) (v := .agg #[.int .i64 (((Orb.cx o (t - d) : Nat) : Int) : Int), .int .i64 (((Orb.cy o (t - d) : Nat) : Int) : Int)]) rfl (by kernel_rfl) (by kernel_rfl) (st33 bO5_t29.1 bO5_t29.2 bO5_t30.1 bO5_t30.2)) bO5_t29 bO5_t30 ?_)
  intro X21 ho hv0 hv1 hk
  replace hE := ho.ext hE (Nat.le_trans hs3 (Nat.le_of_eq hzO5))
  replace bO1_t22 := ho.box (Nat.ne_of_gt (Nat.lt_of_lt_of_le lt4 (Nat.le_of_eq hzO5))) bO1_t22
  replace bO1_t23 := ho.box (Nat.ne_of_gt (Nat.lt_of_lt_of_le lt4 (Nat.le_of_eq hzO5))) bO1_t23
  replace bO1_t24 := ho.box (Nat.ne_of_gt (Nat.lt_of_lt_of_le lt4 (Nat.le_of_eq hzO5))) bO1_t24
  replace bO1_t25 := ho.box (Nat.ne_of_gt (Nat.lt_of_lt_of_le lt4 (Nat.le_of_eq hzO5))) bO1_t25
  replace bO1_t26 := ho.box (Nat.ne_of_gt (Nat.lt_of_lt_of_le lt4 (Nat.le_of_eq hzO5))) bO1_t26
  replace bO1_t27 := ho.box (Nat.ne_of_gt (Nat.lt_of_lt_of_le lt4 (Nat.le_of_eq hzO5))) bO1_t27
  replace bO1_t28 := ho.box (Nat.ne_of_gt (Nat.lt_of_lt_of_le lt4 (Nat.le_of_eq hzO5))) bO1_t28
  replace bO12_t31 := ho.box (Nat.ne_of_lt (Nat.lt_of_lt_of_le lt8 (Nat.le_trans hs11 (Nat.le_of_eq hzO12)))) bO12_t31
  replace bO12_t32 := ho.box (Nat.ne_of_lt (Nat.lt_of_lt_of_le lt8 (Nat.le_trans hs11 (Nat.le_of_eq hzO12)))) bO12_t32
  replace bO12_t33 := ho.box (Nat.ne_of_lt (Nat.lt_of_lt_of_le lt8 (Nat.le_trans hs11 (Nat.le_of_eq hzO12)))) bO12_t33
  replace bO12_t34 := ho.box (Nat.ne_of_lt (Nat.lt_of_lt_of_le lt8 (Nat.le_trans hs11 (Nat.le_of_eq hzO12)))) bO12_t34
  replace bO12_t35 := ho.box (Nat.ne_of_lt (Nat.lt_of_lt_of_le lt8 (Nat.le_trans hs11 (Nat.le_of_eq hzO12)))) bO12_t35
  replace bO12_t36 := ho.box (Nat.ne_of_lt (Nat.lt_of_lt_of_le lt8 (Nat.le_trans hs11 (Nat.le_of_eq hzO12)))) bO12_t36
  replace bO12_t37 := ho.box (Nat.ne_of_lt (Nat.lt_of_lt_of_le lt8 (Nat.le_trans hs11 (Nat.le_of_eq hzO12)))) bO12_t37
  replace bO12_t38 := ho.box (Nat.ne_of_lt (Nat.lt_of_lt_of_le lt8 (Nat.le_trans hs11 (Nat.le_of_eq hzO12)))) bO12_t38
  have hs39 : w19.heap.size ≤ X21.heap.size := Nat.le_of_eq ho.size.symm
  clear ho hk bO5_t29 bO5_t30
  have bO5_t29 := hv0; clear hv0
  have bO5_t30 := hv1; clear hv1
  refine pl_take (.int .i64 0) rfl (by kernel_rfl) (by kernel_rfl) (by kernel_rfl) (by kernel_rfl) ?_
  refine pl_nil ?_
  refine qw_then ?_
  refine cw_ret ?_
  refine qw_ret [.agg #[.int .i64 (((Orb.cx o (t - d) : Nat) : Int) : Int), .int .i64 (((Orb.cy o (t - d) : Nat) : Int) : Int)], .int .i64 0] rfl ⟨⟨_, by kernel_rfl, res_ld (ld33 (bO5_t29.1) (bO5_t30.1))⟩, (by kernel_rfl), trivial⟩ ?_
  exact ⟨rfl, hE⟩
end Go.Proofs.YtdjjkhefdalokaaDoor

/- Contracts of package orbit: the delays. -/
namespace Go.Proofs.YtdjjkhefdalokaaDoor
open Go.RowKit

/-- What the iterator of the delays has captured. -/
def DelAt (w : World) (B1 B2 : Nat) (o : Orb) (t : Int) : Prop :=
  w.cell? ⟨B1, 0, none⟩ = some (.int .i64 o.p) ∧ w.cell? ⟨B1, 1, none⟩ = some (.int .i64 o.f) ∧ w.cell? ⟨B1, 2, none⟩ = some (.int .i64 o.lo) ∧ w.cell? ⟨B1, 3, none⟩ = some (.int .i64 o.hi) ∧
    w.cell? ⟨B1, 4, none⟩ = some (.int .i64 o.nd) ∧ w.cell? ⟨B1, 5, none⟩ = some (.int .i64 o.tn) ∧ w.cell? ⟨B1, 6, none⟩ = some (.int .i64 o.sl) ∧ w.cell? ⟨B2, 0, none⟩ = some (.int .i64 t)
set_option maxRecDepth 1000000 in
set_option maxHeartbeats 4000000 in
theorem odelays_c (o : Orb) (t : Int) (w : World) : Calls Tryd.prog 55 #[.agg #[.int .i64 o.p, .int .i64 o.f, .int .i64 o.lo, .int .i64 o.hi, .int .i64 o.nd, .int .i64 o.tn, .int .i64 o.sl], .int .i64 t] w fun e w' => ∃ B1 B2, e = .returned (.func (.func 72) #[] #[.pointer (some ⟨B1, 0, none⟩), .pointer (some ⟨B2, 0, none⟩)]) ∧ (w.heap.size ≤ B1 ∧ w.heap.size ≤ B2) ∧ DelAt w' B1 B2 o t ∧ Ext w w' := by
  refine calls_cw 6 [(1, .int .i64 (t : Int)), (0, .agg #[.int .i64 (o.p : Int), .int .i64 (o.f : Int), .int .i64 (o.lo : Int), .int .i64 (o.hi : Int), .int .i64 (o.nd : Int), .int .i64 (o.tn : Int), .int .i64 (o.sl : Int)])] Tryd.func55 rfl Tryd.ntmps55 (by kernel_rfl) (by kernel_rfl) (fun L => ?_)
  have hE : Ext w w := Ext.refl w
  refine cw_seq ?_
  refine cw_plain ?_
  refine pl_step rfl (by kernel_rfl) (by kernel_rfl) (by kernel_rfl) (sn_new (us := #[.int .i64 (o.p : Int), .int .i64 (o.f : Int), .int .i64 (o.lo : Int), .int .i64 (o.hi : Int), .int .i64 (o.nd : Int), .int .i64 (o.tn : Int), .int .i64 (o.sl : Int)]) (t := 26) (by kernel_rfl) ?_)
  intro O1 X2 hO hOs hb hbx
  have hzO1 := hO; have hyO1 := hOs; clear hO hOs
  have bO1_0 : BoxAt X2 O1 0 (.int .i64 (o.p : Int)) := hbx 0 _ rfl
  have bO1_1 : BoxAt X2 O1 1 (.int .i64 (o.f : Int)) := hbx 1 _ rfl
  have bO1_2 : BoxAt X2 O1 2 (.int .i64 (o.lo : Int)) := hbx 2 _ rfl
  have bO1_3 : BoxAt X2 O1 3 (.int .i64 (o.hi : Int)) := hbx 3 _ rfl
  have bO1_4 : BoxAt X2 O1 4 (.int .i64 (o.nd : Int)) := hbx 4 _ rfl
  have bO1_5 : BoxAt X2 O1 5 (.int .i64 (o.tn : Int)) := hbx 5 _ rfl
  have bO1_6 : BoxAt X2 O1 6 (.int .i64 (o.sl : Int)) := hbx 6 _ rfl
  clear hbx
  replace hE := hE.trans hb
  have hs3 := hb.size
  clear hb
  have lt4 := bO1_0.lt
  refine pl_step rfl (by kernel_rfl) (by kernel_rfl) (by kernel_rfl) (sn_new (us := #[.int .i64 (t : Int)]) (t := 3) (by kernel_rfl) ?_)
  intro O5 X6 hO hOs hb hbx
  have hzO5 := hO; have hyO5 := hOs; clear hO hOs
  have bO5_0 : BoxAt X6 O5 0 (.int .i64 (t : Int)) := hbx 0 _ rfl
  clear hbx
  replace hE := hE.trans hb
  replace bO1_0 := BoxAt.ext hb bO1_0
  replace bO1_1 := BoxAt.ext hb bO1_1
  replace bO1_2 := BoxAt.ext hb bO1_2
  replace bO1_3 := BoxAt.ext hb bO1_3
  replace bO1_4 := BoxAt.ext hb bO1_4
  replace bO1_5 := BoxAt.ext hb bO1_5
  replace bO1_6 := BoxAt.ext hb bO1_6
  have hs7 := hb.size
  clear hb
  have lt8 := bO5_0.lt
  refine pl_take (Value.nilFunc) rfl (by kernel_rfl) (by kernel_rfl) (by kernel_rfl) (by kernel_rfl) ?_
  refine pl_nil ?_
  refine qw_then ?_
  refine cw_seq ?_
  have hX9 : Ext X6 X6 := Ext.refl _
  refine cw_plain ?_
  refine pl_take (.func (.func 72) #[] #[.pointer (some ⟨O1, 0, none⟩), .pointer (some ⟨O5, 0, none⟩)]) rfl (by kernel_rfl) (by kernel_rfl) (by kernel_rfl) (by kernel_rfl) ?_
  refine pl_take (.func (.func 72) #[] #[.pointer (some ⟨O1, 0, none⟩), .pointer (some ⟨O5, 0, none⟩)]) rfl (by kernel_rfl) (by kernel_rfl) (by kernel_rfl) (by kernel_rfl) ?_
  refine pl_nil ?_
  refine qw_then ?_
  refine cw_ret ?_
  refine qw_ret [.func (.func 72) #[] #[.pointer (some ⟨O1, 0, none⟩), .pointer (some ⟨O5, 0, none⟩)]] rfl ⟨(by kernel_rfl), trivial⟩ ?_
  exact ⟨O1, O5, rfl, ⟨(Nat.le_of_eq hzO1), (Nat.le_trans hs3 (Nat.le_of_eq hzO5))⟩, ⟨bO1_0.1, bO1_1.1, bO1_2.1, bO1_3.1, bO1_4.1, bO1_5.1, bO1_6.1, bO5_0.1⟩, hE⟩
set_option maxRecDepth 1000000 in
set_option maxHeartbeats 4000000 in
theorem odelays_seq {o : Orb} {t : Int} {B1 B2 : Nat} {X : Nat → Prop} {w0 : World} (hok : Orb.ok o = true) (h0 : 0 ≤ t) (h1 : t ≤ 1000000) (hX1 : ¬ X B1) (hX2 : ¬ X B2) (hD : DelAt w0 B1 B2 o t) :
    SeqN Tryd.prog 72 #[.pointer (some ⟨B1, 0, none⟩), .pointer (some ⟨B2, 0, none⟩)] (2 * o.sl + 1).toNat (fun i => [.agg #[.int .i64 o.p, .int .i64 o.f, .int .i64 o.lo, .int .i64 o.hi, .int .i64 o.nd, .int .i64 o.tn, .int .i64 o.sl, .int .i64 (t - (-o.sl + ((i : Nat) : Int)))]]) (fun _ _ => True) X w0 := by
  intro l J Jx w hW hJst hJxst hY hJ0 n
  have hq0 := Orb.ok_t.1 hok
  obtain ⟨o0, o1, o2, o3, o4, o5, o6, t0⟩ := hD
  replace o0 := hW.cell o0
  replace o1 := hW.cell o1
  replace o2 := hW.cell o2
  replace o3 := hW.cell o3
  replace o4 := hW.cell o4
  replace o5 := hW.cell o5
  replace o6 := hW.cell o6
  replace t0 := hW.cell t0
  have hbB1 : B1 < w.heap.size := World.block_lt_of_cell? _ _ o0
  have hbB2 : B2 < w.heap.size := World.block_lt_of_cell? _ _ t0
  refine icalls 22 [(2, .pointer (some ⟨B2, 0, none⟩)), (1, .pointer (some ⟨B1, 0, none⟩)), (0, .func (.yield l) #[] #[])] Tryd.func72 rfl Tryd.ntmps72 (by kernel_rfl) (by kernel_rfl) (fun L mm => ?_)
  have hE : Ext w w := Ext.refl w
  refine icw_seq ?_
  refine icw_plain ?_
  refine ipl_take (.pointer (some ⟨B1, 6, none⟩)) rfl (by kernel_rfl) (by kernel_rfl) (by kernel_rfl) (by kernel_rfl) ?_
  refine ipl_take (.int .i64 (o.sl : Int)) rfl (by kernel_rfl) (by kernel_rfl) (by kernel_rfl) (ex_load rfl (by kernel_rfl) (ld3 (o6))) ?_
  refine ipl_take (.int .i64 (-o.sl + ((0 : Nat) : Int) : Int)) rfl (by kernel_rfl) (by kernel_rfl) (by kernel_rfl) (ev_int (ev_wrap (a := 0 - o.sl) (by kernel_rfl) (by omega) (by omega)) (by omega)) ?_
  refine ipl_take (.int .i64 (-o.sl + ((0 : Nat) : Int) : Int)) rfl (by kernel_rfl) (by kernel_rfl) (by kernel_rfl) (by kernel_rfl) ?_
  refine ipl_nil ?_
  refine iqw_then ?_
  refine icw_block ?_
  have hJs1 := hJst _ _ _ hJ0 (Ext.refl _)
  refine icw_loop [0, 1, 2, 4] (fun ws' wr m => ∃ i : Nat, ws' = [(0, .func (.yield l) #[] #[]), (1, .pointer (some ⟨B1, 0, none⟩)), (2, .pointer (some ⟨B2, 0, none⟩)), (4, .int .i64 (-o.sl + ((i : Nat) : Int) : Int))] ∧ m = (2 * o.sl + 1).toNat - i ∧ w.heap.size ≤ wr.heap.size ∧ wr.cell? ⟨B1, 0, none⟩ = some (.int .i64 (o.p : Int)) ∧ wr.cell? ⟨B1, 1, none⟩ = some (.int .i64 (o.f : Int)) ∧ wr.cell? ⟨B1, 2, none⟩ = some (.int .i64 (o.lo : Int)) ∧ wr.cell? ⟨B1, 3, none⟩ = some (.int .i64 (o.hi : Int)) ∧ wr.cell? ⟨B1, 4, none⟩ = some (.int .i64 (o.nd : Int)) ∧ wr.cell? ⟨B1, 5, none⟩ = some (.int .i64 (o.tn : Int)) ∧ wr.cell? ⟨B1, 6, none⟩ = some (.int .i64 (o.sl : Int)) ∧ wr.cell? ⟨B2, 0, none⟩ = some (.int .i64 (t : Int)) ∧ J i wr ∧ i ≤ (2 * o.sl + 1).toNat) (ws0 := [(0, .func (.yield l) #[] #[]), (1, .pointer (some ⟨B1, 0, none⟩)), (2, .pointer (some ⟨B2, 0, none⟩)), (4, .int .i64 (-o.sl + ((0 : Nat) : Int) : Int))]) (by kernel_rfl) _ ⟨0, rfl, rfl, Nat.le_refl _, o0, o1, o2, o3, o4, o5, o6, t0, hJs1, by omega⟩ ?_
  clear o0 o1 o2 o3 o4 o5 o6 t0
  rintro m4 L ws w3 ⟨i, rfl, rfl, hs2, o0, o1, o2, o3, o4, o5, o6, t0, hJ9, hi⟩
  have hX5 : Ext w3 w3 := Ext.refl _
  by_cases hlt : i < (2 * o.sl + 1).toNat
  ·
    refine icw_seq ?_
    refine icw_seq ?_
    refine icw_plain ?_
    refine ipl_take (.int .i64 (-o.sl + ((i : Nat) : Int) : Int)) rfl (by kernel_rfl) (by kernel_rfl) (by kernel_rfl) (by kernel_rfl) ?_
    refine ipl_take (.pointer (some ⟨B1, 6, none⟩)) rfl (by kernel_rfl) (by kernel_rfl) (by kernel_rfl) (by kernel_rfl) ?_
    refine ipl_take (.int .i64 (o.sl : Int)) rfl (by kernel_rfl) (by kernel_rfl) (by kernel_rfl) (ex_load rfl (by kernel_rfl) (ld3 (o6))) ?_
    refine ipl_take (.bool true) rfl (by kernel_rfl) (by kernel_rfl) (by kernel_rfl) (ev_dec (show _ = Result.ok (Next.value (Value.bool (decide ((-o.sl + ((i : Nat) : Int) : Int) ≤ (o.sl : Int))))) _ from by kernel_rfl) (by omega)) ?_
    refine ipl_nil ?_
    refine iqw_then ?_
    refine icw_t (by kernel_rfl) ?_
    refine icw_skip ?_
    refine iqw_then ?_
    refine icw_seq ?_
    refine icw_block ?_
    refine icw_seq ?_
    refine icw_plain ?_
    refine ipl_take (.func (.yield l) #[] #[]) rfl (by kernel_rfl) (by kernel_rfl) (by kernel_rfl) (by kernel_rfl) ?_
    refine ipl_take (.agg #[.int .i64 (o.p : Int), .int .i64 (o.f : Int), .int .i64 (o.lo : Int), .int .i64 (o.hi : Int), .int .i64 (o.nd : Int), .int .i64 (o.tn : Int), .int .i64 (o.sl : Int)]) rfl (by kernel_rfl) (by kernel_rfl) (by kernel_rfl) (ex_load rfl (by kernel_rfl) (ld26 (o0) (o1) (o2) (o3) (o4) (o5) (o6))) ?_
    refine ipl_take (.int .i64 (t : Int)) rfl (by kernel_rfl) (by kernel_rfl) (by kernel_rfl) (ex_load rfl (by kernel_rfl) (ld3 (t0))) ?_
    refine ipl_take (.int .i64 (-o.sl + ((i : Nat) : Int) : Int)) rfl (by kernel_rfl) (by kernel_rfl) (by kernel_rfl) (by kernel_rfl) ?_
    refine ipl_take (.int .i64 (t - (-o.sl + ((i : Nat) : Int)) : Int)) rfl (by kernel_rfl) (by kernel_rfl) (by kernel_rfl) (ev_wrap (by kernel_rfl) (by omega) (by omega)) ?_
    refine ipl_take (.agg #[.int .i64 (o.p : Int), .int .i64 (o.f : Int), .int .i64 (o.lo : Int), .int .i64 (o.hi : Int), .int .i64 (o.nd : Int), .int .i64 (o.tn : Int), .int .i64 (o.sl : Int), .int .i64 (t - (-o.sl + ((i : Nat) : Int)) : Int)]) rfl (by kernel_rfl) (by kernel_rfl) (by kernel_rfl) (by kernel_rfl) ?_
    refine ipl_yield rfl (by kernel_rfl) (by kernel_rfl) (by kernel_rfl) (sy_yield (args := #[.agg #[.int .i64 (o.p : Int), .int .i64 (o.f : Int), .int .i64 (o.lo : Int), .int .i64 (o.hi : Int), .int .i64 (o.nd : Int), .int .i64 (o.tn : Int), .int .i64 (o.sl : Int), .int .i64 (t - (-o.sl + ((i : Nat) : Int)) : Int)]]) rfl (by kernel_rfl) (by kernel_rfl) (yield_mono (hY i _ _ (by omega) (hJst _ _ _ hJ9 (Ext.refl _)) trivial) ?_))
    rintro e w6 (⟨rfl, hJ7, hk8⟩ | ⟨rfl, hJ7, hk8⟩)
    ·
      replace o0 := hk8.cell hX1 o0
      replace o1 := hk8.cell hX1 o1
      replace o2 := hk8.cell hX1 o2
      replace o3 := hk8.cell hX1 o3
      replace o4 := hk8.cell hX1 o4
      replace o5 := hk8.cell hX1 o5
      replace o6 := hk8.cell hX1 o6
      replace t0 := hk8.cell hX2 t0
      have hs9 := hk8.size
      have hX10 : Ext w6 w6 := Ext.refl _
      refine ⟨_, rfl, ?_⟩
      refine ipl_take (.bool false) rfl (by kernel_rfl) (by kernel_rfl) (by kernel_rfl) (by kernel_rfl) ?_
      refine ipl_nil ?_
      refine iqw_then ?_
      refine icw_clean [0, 1, 2, 4, 21] (ws' := [(0, .func (.yield l) #[] #[]), (1, .pointer (some ⟨B1, 0, none⟩)), (2, .pointer (some ⟨B2, 0, none⟩)), (4, .int .i64 (-o.sl + ((i : Nat) : Int) : Int)), (21, .bool false)]) (by kernel_rfl) (fun L => ?_)
      refine icw_f (by kernel_rfl) ?_
      refine icw_skip ?_
      refine iqw_block ?_
      refine iqw_then ?_
      refine icw_plain ?_
      refine ipl_take (.int .i64 (-o.sl + ((i : Nat) : Int) : Int)) rfl (by kernel_rfl) (by kernel_rfl) (by kernel_rfl) (by kernel_rfl) ?_
      refine ipl_take (.int .i64 (-o.sl + ((i + 1 : Nat) : Int) : Int)) rfl (by kernel_rfl) (by kernel_rfl) (by kernel_rfl) (ev_int (ev_wrap (a := -o.sl + ((i : Nat) : Int) + 1) (by kernel_rfl) (by omega) (by omega)) (by omega)) ?_
      refine ipl_take (.int .i64 (-o.sl + ((i + 1 : Nat) : Int) : Int)) rfl (by kernel_rfl) (by kernel_rfl) (by kernel_rfl) (by kernel_rfl) ?_
      refine ipl_nil ?_
      refine iqw_round [0, 1, 2, 4] (ws' := [(0, .func (.yield l) #[] #[]), (1, .pointer (some ⟨B1, 0, none⟩)), (2, .pointer (some ⟨B2, 0, none⟩)), (4, .int .i64 (-o.sl + ((i + 1 : Nat) : Int) : Int))]) (by kernel_rfl) _ ?_ ⟨(i + 1), rfl, rfl, (Nat.le_trans hs2 hs9), o0, o1, o2, o3, o4, o5, o6, t0, (hJst _ _ _ hJ7 (Ext.refl _)), by omega⟩
      omega
    ·
      replace o0 := hk8.cell hX1 o0
      replace o1 := hk8.cell hX1 o1
      replace o2 := hk8.cell hX1 o2
      replace o3 := hk8.cell hX1 o3
      replace o4 := hk8.cell hX1 o4
      replace o5 := hk8.cell hX1 o5
      replace o6 := hk8.cell hX1 o6
      replace t0 := hk8.cell hX2 t0
      have hs11 := hk8.size
      have hX12 : Ext w6 w6 := Ext.refl _
      refine ⟨_, rfl, ?_⟩
      refine ipl_take (.bool true) rfl (by kernel_rfl) (by kernel_rfl) (by kernel_rfl) (by kernel_rfl) ?_
      refine ipl_nil ?_
      refine iqw_then ?_
      refine icw_clean [0, 1, 2, 4, 21] (ws' := [(0, .func (.yield l) #[] #[]), (1, .pointer (some ⟨B1, 0, none⟩)), (2, .pointer (some ⟨B2, 0, none⟩)), (4, .int .i64 (-o.sl + ((i : Nat) : Int) : Int)), (21, .bool true)]) (by kernel_rfl) (fun L => ?_)
      refine icw_t (by kernel_rfl) ?_
      refine icw_ret ?_
      refine iqw_block_ret ?_
      refine iqw_then_ret ?_
      refine iqw_then_ret ?_
      refine iqw_block_ret ?_
      refine iqw_ret0 [] rfl trivial ?_
      exact ⟨⟨_, rfl⟩, .inr ⟨i, by omega, hJxst _ _ _ hJ7 (Ext.refl _)⟩⟩
  ·
    have hin : i = (2 * o.sl + 1).toNat := by omega
    refine icw_seq ?_
    refine icw_seq ?_
    refine icw_plain ?_
    refine ipl_take (.int .i64 (-o.sl + ((i : Nat) : Int) : Int)) rfl (by kernel_rfl) (by kernel_rfl) (by kernel_rfl) (by kernel_rfl) ?_
    refine ipl_take (.pointer (some ⟨B1, 6, none⟩)) rfl (by kernel_rfl) (by kernel_rfl) (by kernel_rfl) (by kernel_rfl) ?_
    refine ipl_take (.int .i64 (o.sl : Int)) rfl (by kernel_rfl) (by kernel_rfl) (by kernel_rfl) (ex_load rfl (by kernel_rfl) (ld3 (o6))) ?_
    refine ipl_take (.bool false) rfl (by kernel_rfl) (by kernel_rfl) (by kernel_rfl) (ev_ndec (show _ = Result.ok (Next.value (Value.bool (decide ((-o.sl + ((i : Nat) : Int) : Int) ≤ (o.sl : Int))))) _ from by kernel_rfl) (by omega)) ?_
    refine ipl_nil ?_
    refine iqw_then ?_
    refine icw_f (by kernel_rfl) ?_
    refine icw_exit ?_
    refine iqw_then_exit ?_
    refine iqw_then_exit ?_
    refine iqw_block_out ?_
    refine iqw_end0 [] rfl trivial ?_
    exact ⟨⟨_, rfl⟩, .inl (hin ▸ hJst _ _ _ hJ9 (Ext.refl _))⟩

end Go.Proofs.YtdjjkhefdalokaaDoor
