/- Part 7 of what the proof of SwathMatchesReference stands on. -/
import Derived.Test.YtdjjkhefdalokaaV6SwathMatchesReference
/- Contracts of the reference of chapter 8: covers. -/
namespace Go.Proofs.Ytdjjkhefdalokaa
open Go.RowKit

set_option maxRecDepth 1000000 in
set_option maxHeartbeats 4000000 in
theorem rcovers_c {w1 : World} {o : Orb} {s : Int × Int} {lk : Int} {a : Option Addr} {n : Nat} {cs : List (Nat × Nat)} {L : List Int} {r : Bool} (c : Nat) (w : World) (hv : Swath.shB o s lk = true) (hC : CellsAt w1 a n cs) (e1 : Ext w1 w) (hL : Globe.validL L = true) (hcs : cs = Globe.cellsTo L 24) (hr : Globe.containsB (Swath.sureL o s lk) L = r) : Calls Try.prog 62 #[.agg #[.int .i64 o.p, .int .i64 o.f, .int .i64 o.lo, .int .i64 o.hi, .int .i64 o.nd, .int .i64 o.tn, .int .i64 o.sl], .agg #[.int .i64 s.1, .int .i64 s.2], .int .i64 lk, .slice a n c] w fun e w' => e = .returned (.bool r) ∧ Ext w w' := by
 obtain ⟨hok, ⟨sp0, sp1, sp2, sp3⟩, hl0, hl1⟩ := Swath.shB_t.1 hv
 have hq0 := Orb.ok_t.1 hok
 have hN : Swath.lates o = (2 * o.sl + 1).toNat := rfl
 have hM : Swath.mins s = (s.2 - s.1).toNat := rfl
 have hln := hC.1
 have hlb : n ≤ 1152 := by rw [← hln, hcs]; exact Globe.cellsTo_len L 24
 refine calls_cw 52 [(3, .slice a n c), (2, .int .i64 lk), (1, .agg #[.int .i64 s.1, .int .i64 s.2]), (0, .agg #[.int .i64 o.p, .int .i64 o.f, .int .i64 o.lo, .int .i64 o.hi, .int .i64 o.nd, .int .i64 o.tn, .int .i64 o.sl])] Try.func62 rfl Try.ntmps62 (by kernel_rfl) (by kernel_rfl) (fun L => ?_)
 have hE : Ext w w := Ext.refl w
 refine cw_seq ?_; refine cw_plain ?_
 refine pS (sn_new (us := #[.int .i64 o.p, .int .i64 o.f, .int .i64 o.lo, .int .i64 o.hi, .int .i64 o.nd, .int .i64 o.tn, .int .i64 o.sl]) (t := 24) (by kernel_rfl) ?_)
 intro O1 X2 hzO1 hyO1 hb hbx; have ⟨bO1_0, bO1_1, bO1_2, bO1_3, bO1_4, bO1_5, bO1_6⟩ := bx7 hbx; clear hbx
 replace hE := hE.trans hb; have hs3 := hb.size; clear hb; have lt4 := bO1_0.lt
 refine pS (sn_new (us := #[.int .i64 s.1, .int .i64 s.2]) (t := 26) (by kernel_rfl) ?_)
 intro O5 X6 hzO5 hyO5 hb hbx; have ⟨bO5_0, bO5_1⟩ := bx2 hbx; clear hbx
 replace hE := hE.trans hb; replace bO1_0 := BoxAt.ext hb bO1_0; replace bO1_1 := BoxAt.ext hb bO1_1; replace bO1_2 := BoxAt.ext hb bO1_2; replace bO1_3 := BoxAt.ext hb bO1_3; replace bO1_4 := BoxAt.ext hb bO1_4; replace bO1_5 := BoxAt.ext hb bO1_5; replace bO1_6 := BoxAt.ext hb bO1_6; have hs7 := hb.size; clear hb; have lt8 := bO5_0.lt; refine pT (.bool false) ?_; refine pl_nil ?_; refine qw_then ?_; refine cw_seq ?_; refine cw_seq ?_; have hX9 : Ext X6 X6 := Ext.refl _; refine cw_plain ?_; refine pT (.pointer (some ⟨O1, 6, none⟩)) ?_
 refine pU (.int .i64 o.sl) (ex_load rfl (by kernel_rfl) (ld3 (bO1_6.1))) ?_
 refine pU (.int .i64 (-o.sl : Int)) (ev_int (ev_wrap (a := 0 - o.sl) (by kernel_rfl) (by omega) (by omega)) (by omega)) ?_
 refine pU (.int .i64 (-o.sl + ((0 : Nat) : Int) : Int)) (ev_int (show _ = Result.ok (Next.value (Value.int .i64 (-o.sl))) _ from by kernel_rfl) (by omega)) ?_
 refine pl_nil ?_; refine qw_then ?_
 refine cw_block ?_
 refine cw_loop [2, 3, 4, 5, 9] (fun ws' wr m => ∃ j : Nat, ws' = [(2, .int .i64 lk), (3, .slice a n c), (4, .pointer (some ⟨O1, 0, none⟩)), (5, .pointer (some ⟨O5, 0, none⟩)), (9, .int .i64 (-o.sl + ((j : Nat) : Int) : Int))] ∧ m = Swath.lates o - j ∧ X6.heap.size ≤ wr.heap.size ∧ Ext w wr ∧ Ext X6 wr ∧ Swath.CovTo o s lk cs j 0 ∧ j ≤ Swath.lates o) (ws0 := [(2, .int .i64 lk), (3, .slice a n c), (4, .pointer (some ⟨O1, 0, none⟩)), (5, .pointer (some ⟨O5, 0, none⟩)), (9, .int .i64 (-o.sl + ((0 : Nat) : Int) : Int))]) (by kernel_rfl) _ ⟨0, rfl, rfl, Nat.le_refl _, hE, hX9, (Swath.cov_0 _ _ _ _), Nat.zero_le _⟩ ?_
 clear hE hX9
 rintro m12 L ws w11 ⟨j, rfl, rfl, hs10, hE, hX9, hct, hj⟩
 by_cases hlt : j < Swath.lates o
 ·
  have hltj := hlt; clear hlt; refine cw_seq ?_; refine cw_seq ?_; refine cw_plain ?_; refine pT (.int .i64 (-o.sl + ((j : Nat) : Int) : Int)) ?_; refine pT (.pointer (some ⟨O1, 6, none⟩)) ?_
  refine pU (.int .i64 o.sl) (ex_load rfl (by kernel_rfl) (ld3 ((BoxAt.ext hX9 bO1_6).1))) ?_
  refine pU (.bool true) (ev_dec (show _ = Result.ok (Next.value (Value.bool (decide ((-o.sl + ((j : Nat) : Int) : Int) ≤ (o.sl : Int))))) _ from by kernel_rfl) (by omega)) ?_
  refine pl_nil ?_; refine qw_then ?_
  refine cw_t (by kernel_rfl) ?_
  refine cw_skip ?_
  refine qw_then ?_; refine cw_seq ?_
  refine cw_block ?_
  refine cw_seq ?_; refine cw_plain ?_; refine pT (.int .i64 0) ?_; refine pl_nil ?_; refine qw_then ?_
  refine cw_block ?_
  have hX13 : Ext w11 w11 := Ext.refl _
  refine cw_loop [2, 3, 4, 5, 9, 10] (fun ws' wr m => ∃ i : Nat, ws' = [(2, .int .i64 lk), (3, .slice a n c), (4, .pointer (some ⟨O1, 0, none⟩)), (5, .pointer (some ⟨O5, 0, none⟩)), (9, .int .i64 (-o.sl + ((j : Nat) : Int) : Int)), (10, .int .i64 (((i : Nat) : Int) : Int))] ∧ m = n - i ∧ w11.heap.size ≤ wr.heap.size ∧ Ext w wr ∧ Ext w11 wr ∧ Swath.CovTo o s lk cs j i ∧ i ≤ n) (ws0 := [(2, .int .i64 lk), (3, .slice a n c), (4, .pointer (some ⟨O1, 0, none⟩)), (5, .pointer (some ⟨O5, 0, none⟩)), (9, .int .i64 (-o.sl + ((j : Nat) : Int) : Int)), (10, .int .i64 0)]) (by kernel_rfl) _ ⟨0, rfl, rfl, Nat.le_refl _, hE, hX13, hct, Nat.zero_le _⟩ ?_
  clear hE hX13
  rintro m16 L ws w15 ⟨i, rfl, rfl, hs14, hE, hX13, hci, hi⟩
  by_cases hlt : i < n
  ·
   have hlti := hlt; clear hlt
   obtain ⟨p, hp⟩ : ∃ p, cs[i]? = some p := ⟨_, List.getElem?_eq_getElem (by omega)⟩
   obtain ⟨b, rfl, hc9⟩ := hC.2.resolve_left (by omega)
   have hcx9 := (e1.trans hE).cell (hc9 i p hp).1
   have hcy9 := (e1.trans hE).cell (hc9 i p hp).2
   have hbw : b < w.heap.size := World.block_lt_of_cell? _ _ (e1.cell (hc9 i p hp).1)
   have hX17 : Ext w15 w15 := Ext.refl _; refine cw_seq ?_; refine cw_seq ?_; refine cw_plain ?_; refine pT (.int .i64 (((i : Nat) : Int) : Int)) ?_; refine pT (.slice (some ⟨b, 0, none⟩) n c) ?_; refine pT (.int .i64 (((n : Nat) : Int) : Int)) ?_
   refine pU (.bool true) (ev_dec (show _ = Result.ok (Next.value (Value.bool (decide ((((i : Nat) : Int) : Int) < (((n : Nat) : Int) : Int))))) _ from by kernel_rfl) (by omega)) ?_
   refine pl_nil ?_; refine qw_then ?_
   refine cw_t (by kernel_rfl) ?_
   refine cw_skip ?_
   refine qw_then ?_; refine cw_seq ?_
   refine cw_block ?_
   refine cw_seq ?_; refine cw_plain ?_; refine pT (.bool false) ?_; refine pl_nil ?_; refine qw_then ?_; refine cw_seq ?_; refine cw_seq ?_; refine cw_plain ?_; refine pT (.pointer (some ⟨O5, 0, none⟩)) ?_
   have hY18 := hX9.trans hX13
   refine pU (.int .i64 s.1) (ex_load rfl (by kernel_rfl) (ld3 ((BoxAt.ext (hY18.trans hX17) bO5_0).1))) ?_
   refine pU (.int .i64 (s.1 + ((0 : Nat) : Int) : Int)) (ev_int (show _ = Result.ok (Next.value (Value.int .i64 s.1)) _ from by kernel_rfl) (by omega)) ?_
   refine pl_nil ?_; refine qw_then ?_
   refine cw_block ?_
   refine cw_loop [2, 3, 4, 5, 9, 10, 11, 12] (fun ws' wr m => ∃ u : Nat, ∃ q : Bool, ws' = [(2, .int .i64 lk), (3, .slice (some ⟨b, 0, none⟩) n c), (4, .pointer (some ⟨O1, 0, none⟩)), (5, .pointer (some ⟨O5, 0, none⟩)), (9, .int .i64 (-o.sl + ((j : Nat) : Int) : Int)), (10, .int .i64 (((i : Nat) : Int) : Int)), (11, .bool q), (12, .int .i64 (s.1 + ((u : Nat) : Int) : Int))] ∧ m = Swath.mins s - u ∧ w15.heap.size ≤ wr.heap.size ∧ Ext w wr ∧ Ext w15 wr ∧ q = Swath.anyN (Swath.eqQ o s lk j p) u ∧ u ≤ Swath.mins s) (ws0 := [(2, .int .i64 lk), (3, .slice (some ⟨b, 0, none⟩) n c), (4, .pointer (some ⟨O1, 0, none⟩)), (5, .pointer (some ⟨O5, 0, none⟩)), (9, .int .i64 (-o.sl + ((j : Nat) : Int) : Int)), (10, .int .i64 (((i : Nat) : Int) : Int)), (11, .bool false), (12, .int .i64 (s.1 + ((0 : Nat) : Int) : Int))]) (by kernel_rfl) _ ⟨0, false, rfl, rfl, Nat.le_refl _, hE, hX17, rfl, Nat.zero_le _⟩ ?_
   clear hE hX17
   rintro m21 L ws w20 ⟨u, q, rfl, rfl, hs19, hE, hX17, hq, hm9⟩
   cases q
   ·
    by_cases hlt : u < Swath.mins s
    ·
     have hltm := hlt; clear hlt; refine cw_seq ?_; refine cw_seq ?_; refine cw_plain ?_; refine pT (.int .i64 (s.1 + ((u : Nat) : Int) : Int)) ?_; refine pT (.pointer (some ⟨O5, 1, none⟩)) ?_
     refine pU (.int .i64 s.2) (ex_load rfl (by kernel_rfl) (ld3 ((BoxAt.ext (hY18.trans hX17) bO5_1).1))) ?_
     refine pU (.bool true) (ev_dec (show _ = Result.ok (Next.value (Value.bool (decide ((s.1 + ((u : Nat) : Int) : Int) < (s.2 : Int))))) _ from by kernel_rfl) (by omega)) ?_
     refine pT (.bool true) ?_; refine pT (.bool false) ?_; refine pT (.bool true) ?_; refine pT (.bool true) ?_; refine pl_nil ?_; refine qw_then ?_; refine cC9 2 3 4 5 9 10 11 12 37 (fun L => ?_)
     refine cw_t (by kernel_rfl) ?_
     refine cw_skip ?_
     refine qw_then ?_; refine cw_seq ?_
     refine cw_block ?_
     refine cw_draw [(some 40, [4], []), (some 41, [12], []), (some 42, [2], []), (some 43, [9], []), (some 44, [40, 41, 42, 43], [0, 1, 2, 3]), (some 45, [3], []), (some 46, [10], []), (some 47, [45, 46], [5, 6]), (some 48, [47], [7]), (some 49, [44, 48], [4, 8]), (some 11, [49], [9, 4, 0, 1, 2, 3, 4, 5, 6, 7, 8, 9])] (fun w' => w'.cell? ⟨O1, 0, none⟩ = some (.int .i64 o.p) ∧ w'.cell? ⟨O1, 1, none⟩ = some (.int .i64 o.f) ∧ w'.cell? ⟨O1, 2, none⟩ = some (.int .i64 o.lo) ∧ w'.cell? ⟨O1, 3, none⟩ = some (.int .i64 o.hi) ∧ w'.cell? ⟨O1, 4, none⟩ = some (.int .i64 o.nd) ∧ w'.cell? ⟨O1, 5, none⟩ = some (.int .i64 o.tn) ∧ w'.cell? ⟨O1, 6, none⟩ = some (.int .i64 o.sl) ∧ w'.cell? ⟨b, i * 2, none⟩ = some (.int .i64 (((p.1 : Nat) : Int) : Int)) ∧ w'.cell? ⟨b, i * 2 + 1, none⟩ = some (.int .i64 (((p.2 : Nat) : Int) : Int))) (by kernel_rfl) (by kernel_rfl) (by kernel_rfl) (by kernel_rfl) ((calm_block (calm_then (calm_then (calm_block (calm_then (calm_block (calm_then (calm_then (calm_block (calm_block (calm_then (calm_then (calm_block (calm_then calm_body))))))))))))))) (⟨(BoxAt.ext (hY18.trans hX17) bO1_0).1, (BoxAt.ext (hY18.trans hX17) bO1_1).1, (BoxAt.ext (hY18.trans hX17) bO1_2).1, (BoxAt.ext (hY18.trans hX17) bO1_3).1, (BoxAt.ext (hY18.trans hX17) bO1_4).1, (BoxAt.ext (hY18.trans hX17) bO1_5).1, (BoxAt.ext (hY18.trans hX17) bO1_6).1, (hX17.cell hcx9), (hX17.cell hcy9)⟩) (fun ops Q X22 hb hL hR hK => ?_)
     replace hE := hE.trans hb; replace hX17 := hX17.trans hb; have hs23 := hb.size; clear hb
     have hS24 := And.intro ((BoxAt.ext (hY18.trans hX17) bO1_0).1) (And.intro ((BoxAt.ext (hY18.trans hX17) bO1_1).1) (And.intro ((BoxAt.ext (hY18.trans hX17) bO1_2).1) (And.intro ((BoxAt.ext (hY18.trans hX17) bO1_3).1) (And.intro ((BoxAt.ext (hY18.trans hX17) bO1_4).1) (And.intro ((BoxAt.ext (hY18.trans hX17) bO1_5).1) (And.intro ((BoxAt.ext (hY18.trans hX17) bO1_6).1) (And.intro (hX17.cell hcx9) ((hX17.cell hcy9)))))))))
     refine wT 0 (.agg #[.int .i64 o.p, .int .i64 o.f, .int .i64 o.lo, .int .i64 o.hi, .int .i64 o.nd, .int .i64 o.tn, .int .i64 o.sl]) hR (fun w hS => ex_load rfl (by kernel_rfl) (ld24 (hS.1) (hS.2.1) (hS.2.2.1) (hS.2.2.2.1) (hS.2.2.2.2.1) (hS.2.2.2.2.2.1) (hS.2.2.2.2.2.2.1))) (hS24) ?_
     refine wT 1 (.int .i64 (s.1 + ((u : Nat) : Int) : Int)) hR (fun w _ => by kernel_rfl) (hS24) ?_
     refine wT 2 (.int .i64 lk) hR (fun w _ => by kernel_rfl) (hS24) ?_
     refine wT 3 (.int .i64 (-o.sl + ((j : Nat) : Int) : Int)) hR (fun w _ => by kernel_rfl) (hS24) ?_
     refine wT 5 (.slice (some ⟨b, 0, none⟩) n c) hR (fun w _ => by kernel_rfl) (hS24) ?_
     refine wT 6 (.int .i64 (((i : Nat) : Int) : Int)) hR (fun w _ => by kernel_rfl) (hS24) ?_
     refine wT 7 (.pointer (some ⟨b, i * 2, none⟩)) hR (fun w _ => ex_index (p := .slice (some ⟨b, 0, none⟩) n c) (i := .int .i64 ((i : Nat) : Int)) rfl (by kernel_rfl) (by kernel_rfl) (ix92z (k := i) (by omega))) (hS24) ?_
     refine wT 8 (.agg #[.int .i64 (((p.1 : Nat) : Int) : Int), .int .i64 (((p.2 : Nat) : Int) : Int)]) hR (fun w hS => ex_load rfl (by kernel_rfl) (ld57 (hS.2.2.2.2.2.2.2.1) (hS.2.2.2.2.2.2.2.2))) (hS24) ?_
     refine wS 4 hR (sn_call (f := 45) (args := #[.agg #[.int .i64 o.p, .int .i64 o.f, .int .i64 o.lo, .int .i64 o.hi, .int .i64 o.nd, .int .i64 o.tn, .int .i64 o.sl], .int .i64 (s.1 + ((u : Nat) : Int) : Int), .int .i64 lk, .int .i64 (-o.sl + ((j : Nat) : Int) : Int)]) (by kernel_rfl) ((rcell_c o (s.1 + ((u : Nat) : Int)) lk (-o.sl + ((j : Nat) : Int)) _ (by omega) (by omega) (by unfold Orb.atB; rw [show Globe.inB (s.1 + ((u : Nat) : Int)) 0 1000000 = true from Globe.inB_t.2 ⟨by omega, by omega⟩, show Globe.inB (-o.sl + ((j : Nat) : Int)) (-10) 10 = true from Globe.inB_t.2 ⟨by omega, by omega⟩, hok]; rfl)).mono ?_))
     rintro e w25 ⟨rfl, hb⟩
     replace hE := hE.trans hb; replace hX17 := hX17.trans hb; have hs26 := hb.size; clear hb
     have hS27 := And.intro ((BoxAt.ext (hY18.trans hX17) bO1_0).1) (And.intro ((BoxAt.ext (hY18.trans hX17) bO1_1).1) (And.intro ((BoxAt.ext (hY18.trans hX17) bO1_2).1) (And.intro ((BoxAt.ext (hY18.trans hX17) bO1_3).1) (And.intro ((BoxAt.ext (hY18.trans hX17) bO1_4).1) (And.intro ((BoxAt.ext (hY18.trans hX17) bO1_5).1) (And.intro ((BoxAt.ext (hY18.trans hX17) bO1_6).1) (And.intro (hX17.cell hcx9) ((hX17.cell hcy9)))))))))
     refine ⟨_, rfl, hS27, ?_⟩
     refine wT 9 (.bool (Swath.eqQ o s lk j p u)) hR (fun w _ => eqCell rfl (by kernel_rfl) (by kernel_rfl)) (hS27) ?_
     refine wT 10 (.bool (Swath.eqQ o s lk j p u)) hR (fun w _ => by kernel_rfl) (hS27) ?_
     refine wd_end hL hR hK (by kernel_rfl) ?_
     refine qw_block ?_
     refine qw_then ?_; refine cC8 2 3 4 5 9 10 11 12 (fun L => ?_); refine cw_plain ?_; refine pT (.int .i64 (s.1 + ((u : Nat) : Int) : Int)) ?_
     refine pU (.int .i64 (s.1 + ((u + 1 : Nat) : Int) : Int)) (ev_int (ev_wrap (a := s.1 + ((u : Nat) : Int) + 1) (by kernel_rfl) (by omega) (by omega)) (by omega)) ?_
     refine pT (.int .i64 (s.1 + ((u + 1 : Nat) : Int) : Int)) ?_; refine pl_nil ?_
     refine qw_round [2, 3, 4, 5, 9, 10, 11, 12] (ws' := [(2, .int .i64 lk), (3, .slice (some ⟨b, 0, none⟩) n c), (4, .pointer (some ⟨O1, 0, none⟩)), (5, .pointer (some ⟨O5, 0, none⟩)), (9, .int .i64 (-o.sl + ((j : Nat) : Int) : Int)), (10, .int .i64 (((i : Nat) : Int) : Int)), (11, .bool (Swath.eqQ o s lk j p u)), (12, .int .i64 (s.1 + ((u + 1 : Nat) : Int) : Int))]) (by kernel_rfl) _ ?_ ⟨(u + 1), (Swath.eqQ o s lk j p u), rfl, rfl, (T hs19 (T hs23 hs26)), hE, hX17, (by rw [Swath.any_succ, ← hq]; exact (Bool.false_or _).symm), by omega⟩
     omega
    ·
     have hh9 : Globe.hasL (Swath.areaJ o s lk j) p.1 p.2 = false := Swath.eq_not hok (by rw [show Swath.mins s = u by omega]; exact hq.symm)
     refine cw_seq ?_; refine cw_seq ?_; refine cw_plain ?_; refine pT (.int .i64 (s.1 + ((u : Nat) : Int) : Int)) ?_; refine pT (.pointer (some ⟨O5, 1, none⟩)) ?_
     refine pU (.int .i64 s.2) (ex_load rfl (by kernel_rfl) (ld3 ((BoxAt.ext (hY18.trans hX17) bO5_1).1))) ?_
     refine pU (.bool false) (ev_ndec (show _ = Result.ok (Next.value (Value.bool (decide ((s.1 + ((u : Nat) : Int) : Int) < (s.2 : Int))))) _ from by kernel_rfl) (by omega)) ?_
     refine pT (.bool false) ?_; refine pK ?_; refine pK ?_; refine pT (.bool false) ?_; refine pl_nil ?_; refine qw_then ?_; refine cC9 2 3 4 5 9 10 11 12 37 (fun L => ?_)
     refine cw_f (by kernel_rfl) ?_
     refine cw_exit ?_
     refine qw_then_exit ?_
     refine qw_then_exit ?_
     refine qw_block_out ?_
     refine qw_then ?_; refine cw_seq ?_; refine cw_plain ?_; refine pT (.bool false) ?_; refine pT (.bool true) ?_; refine pl_nil ?_; refine qw_then ?_
     refine cw_t (by kernel_rfl) ?_
     refine cw_seq ?_; refine cw_plain ?_; refine pT (.bool false) ?_; refine pl_nil ?_; refine qw_then ?_
     refine cw_ret ?_
     refine qw_block_ret ?_
     refine qw_then_ret ?_
     refine qw_then_ret ?_
     refine qw_block_ret ?_
     refine qw_block_ret ?_
     refine qw_then_ret ?_
     refine qw_then_ret ?_
     refine qw_block_ret ?_
     refine qw_then_ret ?_
     refine qw_ret [.bool false] rfl ⟨(by kernel_rfl), trivial⟩ ?_
     exact ⟨congrArg (fun z => Ending.returned (Value.bool z)) (show r = false from hr ▸ Swath.cov_no hok hL hcs hltj hp hh9).symm, hE⟩
   ·
    have hh9 : Globe.hasL (Swath.areaJ o s lk j) p.1 p.2 = true := Swath.eq_has hok hm9 hq.symm
    by_cases hlt : u < Swath.mins s
    ·
     refine cw_seq ?_; refine cw_seq ?_; refine cw_plain ?_; refine pT (.int .i64 (s.1 + ((u : Nat) : Int) : Int)) ?_; refine pT (.pointer (some ⟨O5, 1, none⟩)) ?_
     refine pU (.int .i64 s.2) (ex_load rfl (by kernel_rfl) (ld3 ((BoxAt.ext (hY18.trans hX17) bO5_1).1))) ?_
     refine pU (.bool true) (ev_dec (show _ = Result.ok (Next.value (Value.bool (decide ((s.1 + ((u : Nat) : Int) : Int) < (s.2 : Int))))) _ from by kernel_rfl) (by omega)) ?_
     refine pT (.bool true) ?_; refine pT (.bool true) ?_; refine pT (.bool false) ?_; refine pT (.bool false) ?_; refine pl_nil ?_; refine qw_then ?_; refine cC9 2 3 4 5 9 10 11 12 37 (fun L => ?_)
     refine cw_f (by kernel_rfl) ?_
     refine cw_exit ?_
     refine qw_then_exit ?_
     refine qw_then_exit ?_
     refine qw_block_out ?_
     refine qw_then ?_; refine cw_seq ?_; refine cw_plain ?_; refine pT (.bool true) ?_; refine pT (.bool false) ?_; refine pl_nil ?_; refine qw_then ?_
     refine cw_f (by kernel_rfl) ?_
     refine cw_skip ?_
     refine qw_block ?_
     refine qw_then ?_; refine cw_plain ?_; refine pT (.int .i64 (((i : Nat) : Int) : Int)) ?_
     refine pU (.int .i64 (((i + 1 : Nat) : Int) : Int)) (ev_wrap (by kernel_rfl) (by omega) (by omega)) ?_
     refine pT (.int .i64 (((i + 1 : Nat) : Int) : Int)) ?_; refine pl_nil ?_
     refine qw_round [2, 3, 4, 5, 9, 10] (ws' := [(2, .int .i64 lk), (3, .slice (some ⟨b, 0, none⟩) n c), (4, .pointer (some ⟨O1, 0, none⟩)), (5, .pointer (some ⟨O5, 0, none⟩)), (9, .int .i64 (-o.sl + ((j : Nat) : Int) : Int)), (10, .int .i64 (((i + 1 : Nat) : Int) : Int))]) (by kernel_rfl) _ ?_ ⟨(i + 1), rfl, rfl, (T hs14 hs19), hE, (hX13.trans hX17), (hci.cell hp hh9), by omega⟩
     omega
    ·
     refine cw_seq ?_; refine cw_seq ?_; refine cw_plain ?_; refine pT (.int .i64 (s.1 + ((u : Nat) : Int) : Int)) ?_; refine pT (.pointer (some ⟨O5, 1, none⟩)) ?_
     refine pU (.int .i64 s.2) (ex_load rfl (by kernel_rfl) (ld3 ((BoxAt.ext (hY18.trans hX17) bO5_1).1))) ?_
     refine pU (.bool false) (ev_ndec (show _ = Result.ok (Next.value (Value.bool (decide ((s.1 + ((u : Nat) : Int) : Int) < (s.2 : Int))))) _ from by kernel_rfl) (by omega)) ?_
     refine pT (.bool false) ?_; refine pK ?_; refine pK ?_; refine pT (.bool false) ?_; refine pl_nil ?_; refine qw_then ?_; refine cC9 2 3 4 5 9 10 11 12 37 (fun L => ?_)
     refine cw_f (by kernel_rfl) ?_
     refine cw_exit ?_
     refine qw_then_exit ?_
     refine qw_then_exit ?_
     refine qw_block_out ?_
     refine qw_then ?_; refine cw_seq ?_; refine cw_plain ?_; refine pT (.bool true) ?_; refine pT (.bool false) ?_; refine pl_nil ?_; refine qw_then ?_
     refine cw_f (by kernel_rfl) ?_
     refine cw_skip ?_
     refine qw_block ?_
     refine qw_then ?_; refine cw_plain ?_; refine pT (.int .i64 (((i : Nat) : Int) : Int)) ?_
     refine pU (.int .i64 (((i + 1 : Nat) : Int) : Int)) (ev_wrap (by kernel_rfl) (by omega) (by omega)) ?_
     refine pT (.int .i64 (((i + 1 : Nat) : Int) : Int)) ?_; refine pl_nil ?_
     refine qw_round [2, 3, 4, 5, 9, 10] (ws' := [(2, .int .i64 lk), (3, .slice (some ⟨b, 0, none⟩) n c), (4, .pointer (some ⟨O1, 0, none⟩)), (5, .pointer (some ⟨O5, 0, none⟩)), (9, .int .i64 (-o.sl + ((j : Nat) : Int) : Int)), (10, .int .i64 (((i + 1 : Nat) : Int) : Int))]) (by kernel_rfl) _ ?_ ⟨(i + 1), rfl, rfl, (T hs14 hs19), hE, (hX13.trans hX17), (hci.cell hp hh9), by omega⟩
     omega
  ·
   have hin : i = n := by omega
   refine cw_seq ?_; refine cw_seq ?_; refine cw_plain ?_; refine pT (.int .i64 (((i : Nat) : Int) : Int)) ?_; refine pT (.slice a n c) ?_; refine pT (.int .i64 (((n : Nat) : Int) : Int)) ?_
   refine pU (.bool false) (ev_ndec (show _ = Result.ok (Next.value (Value.bool (decide ((((i : Nat) : Int) : Int) < (((n : Nat) : Int) : Int))))) _ from by kernel_rfl) (by omega)) ?_
   refine pl_nil ?_; refine qw_then ?_
   refine cw_f (by kernel_rfl) ?_
   refine cw_exit ?_
   refine qw_then_exit ?_
   refine qw_then_exit ?_
   refine qw_block_out ?_
   refine qw_block ?_
   refine qw_then ?_; refine cw_plain ?_; refine pT (.int .i64 (-o.sl + ((j : Nat) : Int) : Int)) ?_
   refine pU (.int .i64 (-o.sl + ((j + 1 : Nat) : Int) : Int)) (ev_int (ev_wrap (a := -o.sl + ((j : Nat) : Int) + 1) (by kernel_rfl) (by omega) (by omega)) (by omega)) ?_
   refine pT (.int .i64 (-o.sl + ((j + 1 : Nat) : Int) : Int)) ?_; refine pl_nil ?_
   refine qw_round [2, 3, 4, 5, 9] (ws' := [(2, .int .i64 lk), (3, .slice a n c), (4, .pointer (some ⟨O1, 0, none⟩)), (5, .pointer (some ⟨O5, 0, none⟩)), (9, .int .i64 (-o.sl + ((j + 1 : Nat) : Int) : Int))]) (by kernel_rfl) _ ?_ ⟨(j + 1), rfl, rfl, (T hs10 hs14), hE, (hX9.trans hX13), (hci.row (by omega)), by omega⟩
   omega
 ·
  have hjn : j = Swath.lates o := by omega
  refine cw_seq ?_; refine cw_seq ?_; refine cw_plain ?_; refine pT (.int .i64 (-o.sl + ((j : Nat) : Int) : Int)) ?_; refine pT (.pointer (some ⟨O1, 6, none⟩)) ?_
  refine pU (.int .i64 o.sl) (ex_load rfl (by kernel_rfl) (ld3 ((BoxAt.ext hX9 bO1_6).1))) ?_
  refine pU (.bool false) (ev_ndec (show _ = Result.ok (Next.value (Value.bool (decide ((-o.sl + ((j : Nat) : Int) : Int) ≤ (o.sl : Int))))) _ from by kernel_rfl) (by omega)) ?_
  refine pl_nil ?_; refine qw_then ?_
  refine cw_f (by kernel_rfl) ?_
  refine cw_exit ?_
  refine qw_then_exit ?_
  refine qw_then_exit ?_
  refine qw_block_out ?_
  refine qw_then ?_; refine cw_seq ?_; refine cw_plain ?_; refine pT (.bool true) ?_; refine pl_nil ?_; refine qw_then ?_
  refine cw_ret ?_
  refine qw_ret [.bool true] rfl ⟨(by kernel_rfl), trivial⟩ ?_
  exact ⟨congrArg (fun z => Ending.returned (Value.bool z)) (show r = true from hr ▸ Swath.cov_yes hok hL hcs hjn hct).symm, hE⟩

end Go.Proofs.Ytdjjkhefdalokaa

/- Contracts of the reference of chapter 8: Best. -/
namespace Go.Proofs.Ytdjjkhefdalokaa
open Go.RowKit

set_option maxRecDepth 1000000 in
set_option maxHeartbeats 4000000 in
theorem rBest_y {w1 : World} {o : Orb} {sp : Int × Int} {mi : Int} {W : Nat} {bb ob : Nat} {l : List Int} (c : Nat) (w : World) (hA : VA w1 bb ob l) (e1 : Ext w1 w) (g1 : Orb.ok o = true) (g2 : Swath.spB sp 300 = true) (g3 : Globe.inB mi 1 60 = true) (g4 : Globe.inB ((W : Nat) : Int) 0 4 = true) :
  Calls Try.prog 27 #[.agg #[.int .i64 o.p, .int .i64 o.f, .int .i64 o.lo, .int .i64 o.hi, .int .i64 o.nd, .int .i64 o.tn, .int .i64 o.sl], .agg #[.int .i64 sp.1, .int .i64 sp.2], .int .i64 mi, .int .i64 ((W : Nat) : Int), .agg #[.slice (some ⟨bb, ob, none⟩) 24 c]] w fun e w' => e = .returned (.tuple #[.agg #[.int .i64 (Swath.best o sp mi W l).1.1, .int .i64 (Swath.best o sp mi W l).1.2], .int .i64 (Swath.best o sp mi W l).2.1, .bool (Swath.best o sp mi W l).2.2, .int .i64 0]) ∧ Ext w w' := by
 have q2 := Swath.spB_t.1 g2
 have q3 := Globe.inB_t.1 g3
 have q4 := Globe.inB_t.1 g4
 have hlv := hA.2
 refine calls_cw 107 [(4, .agg #[.slice (some ⟨bb, ob, none⟩) 24 c]), (3, .int .i64 (((W : Nat) : Int) : Int)), (2, .int .i64 mi), (1, .agg #[.int .i64 sp.1, .int .i64 sp.2]), (0, .agg #[.int .i64 o.p, .int .i64 o.f, .int .i64 o.lo, .int .i64 o.hi, .int .i64 o.nd, .int .i64 o.tn, .int .i64 o.sl])] Try.func27 rfl Try.ntmps27 (by kernel_rfl) (by kernel_rfl) (fun L => ?_)
 have hE : Ext w w := Ext.refl w
 refine cw_seq ?_; refine cw_plain ?_
 refine pS (sn_new (us := #[.int .i64 o.p, .int .i64 o.f, .int .i64 o.lo, .int .i64 o.hi, .int .i64 o.nd, .int .i64 o.tn, .int .i64 o.sl]) (t := 24) (by kernel_rfl) ?_)
 intro O1 X2 hzO1 hyO1 hb hbx; have ⟨bO1_0, bO1_1, bO1_2, bO1_3, bO1_4, bO1_5, bO1_6⟩ := bx7 hbx; clear hbx
 replace hE := hE.trans hb; have hs3 := hb.size; clear hb; have lt4 := bO1_0.lt
 refine pS (sn_new (us := #[.int .i64 sp.1, .int .i64 sp.2]) (t := 26) (by kernel_rfl) ?_)
 intro O5 X6 hzO5 hyO5 hb hbx; have ⟨bO5_0, bO5_1⟩ := bx2 hbx; clear hbx
 replace hE := hE.trans hb; replace bO1_0 := BoxAt.ext hb bO1_0; replace bO1_1 := BoxAt.ext hb bO1_1; replace bO1_2 := BoxAt.ext hb bO1_2; replace bO1_3 := BoxAt.ext hb bO1_3; replace bO1_4 := BoxAt.ext hb bO1_4; replace bO1_5 := BoxAt.ext hb bO1_5; replace bO1_6 := BoxAt.ext hb bO1_6; have hs7 := hb.size; clear hb; have lt8 := bO5_0.lt
 refine pS (sn_new (us := #[.slice (some ⟨bb, ob, none⟩) 24 c]) (t := 31) (by kernel_rfl) ?_)
 intro O9 X10 hzO9 hyO9 hb hbx; have bO9_0 := bx1 hbx; clear hbx
 replace hE := hE.trans hb; replace bO1_0 := BoxAt.ext hb bO1_0; replace bO1_1 := BoxAt.ext hb bO1_1; replace bO1_2 := BoxAt.ext hb bO1_2; replace bO1_3 := BoxAt.ext hb bO1_3; replace bO1_4 := BoxAt.ext hb bO1_4; replace bO1_5 := BoxAt.ext hb bO1_5; replace bO1_6 := BoxAt.ext hb bO1_6; replace bO5_0 := BoxAt.ext hb bO5_0; replace bO5_1 := BoxAt.ext hb bO5_1; have hs11 := hb.size; clear hb; have lt12 := bO9_0.lt
 refine pS (sn_new (us := #[.int .i64 0, .int .i64 0]) (t := 26) (by kernel_rfl) ?_)
 intro O13 X14 hzO13 hyO13 hb hbx; have ⟨bO13_0, bO13_1⟩ := bx2 hbx; clear hbx
 replace hE := hE.trans hb; replace bO1_0 := BoxAt.ext hb bO1_0; replace bO1_1 := BoxAt.ext hb bO1_1; replace bO1_2 := BoxAt.ext hb bO1_2; replace bO1_3 := BoxAt.ext hb bO1_3; replace bO1_4 := BoxAt.ext hb bO1_4; replace bO1_5 := BoxAt.ext hb bO1_5; replace bO1_6 := BoxAt.ext hb bO1_6; replace bO5_0 := BoxAt.ext hb bO5_0; replace bO5_1 := BoxAt.ext hb bO5_1; replace bO9_0 := BoxAt.ext hb bO9_0; have hs15 := hb.size; clear hb; have lt16 := bO13_0.lt; refine pT (.int .i64 0) ?_; refine pT (.bool false) ?_; refine pT (.int .i64 0) ?_; refine pl_nil ?_; refine qw_then ?_; refine cw_seq ?_; refine cw_seq ?_; have hX17 : Ext X14 X14 := Ext.refl _; refine cw_plain ?_
 refine pU (.agg #[.int .i64 o.p, .int .i64 o.f, .int .i64 o.lo, .int .i64 o.hi, .int .i64 o.nd, .int .i64 o.tn, .int .i64 o.sl]) (ex_load rfl (by kernel_rfl) (ld24 (bO1_0.1) (bO1_1.1) (bO1_2.1) (bO1_3.1) (bO1_4.1) (bO1_5.1) (bO1_6.1))) ?_
 refine pS (sn_call (f := 58) (args := #[.agg #[.int .i64 o.p, .int .i64 o.f, .int .i64 o.lo, .int .i64 o.hi, .int .i64 o.nd, .int .i64 o.tn, .int .i64 o.sl]]) (by kernel_rfl) ((rOk_r (r := true) _ (g1)).mono ?_))
 rintro e w18 ⟨rfl, hb⟩
 replace hE := hE.trans hb; replace hX17 := hX17.trans hb; have hs19 := hb.size; clear hb
 refine ⟨_, rfl, ?_⟩
 refine pT (.bool false) ?_; refine pT (.bool false) ?_; refine pT (.pointer (some ⟨O5, 0, none⟩)) ?_
 refine pU (.int .i64 sp.1) (ex_load rfl (by kernel_rfl) (ld3 ((BoxAt.ext hX17 bO5_0).1))) ?_
 refine pU (.bool false) (ev_ndec (show _ = Result.ok (Next.value (Value.bool (decide ((sp.1 : Int) < (0 : Int))))) _ from by kernel_rfl) (by omega)) ?_
 refine pT (.bool false) ?_; refine pT (.bool false) ?_; refine pT (.pointer (some ⟨O5, 0, none⟩)) ?_
 refine pU (.int .i64 sp.1) (ex_load rfl (by kernel_rfl) (ld3 ((BoxAt.ext hX17 bO5_0).1))) ?_
 refine pT (.pointer (some ⟨O5, 1, none⟩)) ?_
 refine pU (.int .i64 sp.2) (ex_load rfl (by kernel_rfl) (ld3 ((BoxAt.ext hX17 bO5_1).1))) ?_
 refine pU (.bool false) (ev_ndec (show _ = Result.ok (Next.value (Value.bool (decide ((sp.1 : Int) ≥ (sp.2 : Int))))) _ from by kernel_rfl) (by omega)) ?_
 refine pT (.bool false) ?_; refine pT (.bool false) ?_; refine pT (.pointer (some ⟨O5, 1, none⟩)) ?_
 refine pU (.int .i64 sp.2) (ex_load rfl (by kernel_rfl) (ld3 ((BoxAt.ext hX17 bO5_1).1))) ?_
 refine pU (.bool false) (ev_ndec (show _ = Result.ok (Next.value (Value.bool (decide ((sp.2 : Int) > (1000001 : Int))))) _ from by kernel_rfl) (by omega)) ?_
 refine pT (.bool false) ?_; refine pT (.bool false) ?_; refine pT (.pointer (some ⟨O5, 1, none⟩)) ?_
 refine pU (.int .i64 sp.2) (ex_load rfl (by kernel_rfl) (ld3 ((BoxAt.ext hX17 bO5_1).1))) ?_
 refine pT (.pointer (some ⟨O5, 0, none⟩)) ?_
 refine pU (.int .i64 sp.1) (ex_load rfl (by kernel_rfl) (ld3 ((BoxAt.ext hX17 bO5_0).1))) ?_
 refine pU (.int .i64 (sp.2 - sp.1 : Int)) (ev_wrap (by kernel_rfl) (by omega) (by omega)) ?_
 refine pU (.bool false) (ev_ndec (show _ = Result.ok (Next.value (Value.bool (decide ((sp.2 - sp.1 : Int) > (300 : Int))))) _ from by kernel_rfl) (by omega)) ?_
 refine pT (.bool false) ?_; refine pT (.bool false) ?_; refine pT (.int .i64 mi) ?_
 refine pU (.bool false) (ev_ndec (show _ = Result.ok (Next.value (Value.bool (decide ((mi : Int) < (1 : Int))))) _ from by kernel_rfl) (by omega)) ?_
 refine pT (.bool false) ?_; refine pT (.bool false) ?_; refine pT (.int .i64 mi) ?_
 refine pU (.bool false) (ev_ndec (show _ = Result.ok (Next.value (Value.bool (decide ((mi : Int) > (60 : Int))))) _ from by kernel_rfl) (by omega)) ?_
 refine pT (.bool false) ?_; refine pT (.bool false) ?_; refine pT (.int .i64 (((W : Nat) : Int) : Int)) ?_
 refine pU (.bool false) (ev_ndec (show _ = Result.ok (Next.value (Value.bool (decide ((((W : Nat) : Int) : Int) < (0 : Int))))) _ from by kernel_rfl) (by omega)) ?_
 refine pT (.bool false) ?_; refine pT (.bool false) ?_; refine pT (.int .i64 (((W : Nat) : Int) : Int)) ?_
 refine pU (.bool false) (ev_ndec (show _ = Result.ok (Next.value (Value.bool (decide ((((W : Nat) : Int) : Int) > (4 : Int))))) _ from by kernel_rfl) (by omega)) ?_
 refine pT (.bool false) ?_; refine pT (.bool false) ?_
 refine pU (.agg #[.slice (some ⟨bb, ob, none⟩) 24 c]) (ex_load rfl (by kernel_rfl) (ld31 ((BoxAt.ext hX17 bO9_0).1))) ?_
 refine pS (sn_call (f := 60) (args := #[.agg #[.slice (some ⟨bb, ob, none⟩) 24 c]]) (by kernel_rfl) ((rValid_c _ _ hA.aa (e1.trans hE)).mono ?_))
 rintro e w20 ⟨rfl, hb⟩
 replace hE := hE.trans hb; replace hX17 := hX17.trans hb; have hs21 := hb.size; clear hb
 refine ⟨_, rfl, ?_⟩
 refine pT (.bool false) ?_; refine pT (.bool false) ?_; refine pl_nil ?_; refine qw_then ?_; refine cC7 2 3 5 6 9 10 66 (fun L => ?_)
 refine cw_f (by kernel_rfl) ?_
 refine cw_skip ?_
 refine qw_then ?_; refine cw_seq ?_; refine cw_plain ?_
 refine pU (.agg #[.slice (some ⟨bb, ob, none⟩) 24 c]) (ex_load rfl (by kernel_rfl) (ld31 ((BoxAt.ext hX17 bO9_0).1))) ?_
 refine pS (sn_call (f := 61) (args := #[.agg #[.slice (some ⟨bb, ob, none⟩) 24 c]]) (by kernel_rfl) ((rCells_v _ _ hA (e1.trans hE)).mono ?_))
 rintro e w25 ⟨aC22, kC23, rfl, hC24, -, hb⟩
 replace hE := hE.trans hb; replace hX17 := hX17.trans hb; have hs26 := hb.size; clear hb; have hX27 : Ext w25 w25 := Ext.refl _
 refine ⟨_, rfl, ?_⟩
 refine pT (.slice aC22 ((Globe.cellsTo l 24).length) kC23) ?_; refine pl_nil ?_; refine qw_then ?_; refine cw_seq ?_; refine cw_seq ?_; refine cw_plain ?_; refine pT (.pointer (some ⟨O5, 0, none⟩)) ?_
 refine pU (.int .i64 sp.1) (ex_load rfl (by kernel_rfl) (ld3 ((BoxAt.ext (hX17.trans hX27) bO5_0).1))) ?_
 refine pU (.int .i64 (sp.1 + ((0 : Nat) : Int) : Int)) (ev_int (show _ = Result.ok (Next.value (Value.int .i64 sp.1)) _ from by kernel_rfl) (by omega)) ?_
 refine pl_nil ?_; refine qw_then ?_
 refine cw_block ?_
 refine cw_loop [2, 3, 5, 6, 10, 14, 15] (fun ws' wr m => ∃ j : Nat, ws' = [(2, .int .i64 mi), (3, .int .i64 (((W : Nat) : Int) : Int)), (5, .pointer (some ⟨O1, 0, none⟩)), (6, .pointer (some ⟨O5, 0, none⟩)), (10, .pointer (some ⟨O13, 0, none⟩)), (14, .slice aC22 ((Globe.cellsTo l 24).length) kC23), (15, .int .i64 (sp.1 + ((j : Nat) : Int) : Int))] ∧ m = Swath.starts sp mi - j ∧ w25.heap.size ≤ wr.heap.size ∧ Ext w wr ∧ Ext w25 wr ∧ Swath.NoHit (Swath.bestP o sp mi W l) (j * (2 * W + 2)) ∧ j ≤ Swath.starts sp mi) (ws0 := [(2, .int .i64 mi), (3, .int .i64 (((W : Nat) : Int) : Int)), (5, .pointer (some ⟨O1, 0, none⟩)), (6, .pointer (some ⟨O5, 0, none⟩)), (10, .pointer (some ⟨O13, 0, none⟩)), (14, .slice aC22 ((Globe.cellsTo l 24).length) kC23), (15, .int .i64 (sp.1 + ((0 : Nat) : Int) : Int))]) (by kernel_rfl) _ ⟨0, rfl, rfl, Nat.le_refl _, hE, hX27, (Swath.NoHit.le (Swath.noHit_0 _) (Nat.zero_mul _)), Nat.zero_le _⟩ ?_
 clear hE hX27
 rintro m30 L ws w29 ⟨j, rfl, rfl, hs28, hE, hX27, hitJ, hj⟩
 have hst : Swath.starts sp mi = (sp.2 - sp.1 - mi + 1).toNat := rfl
 have hkk := hitJ
 by_cases hlt : j < Swath.starts sp mi
 ·
  have hltj := hlt; clear hlt; refine cw_seq ?_; refine cw_seq ?_; refine cw_plain ?_; refine pT (.int .i64 (sp.1 + ((j : Nat) : Int) : Int)) ?_; refine pT (.int .i64 mi) ?_
  refine pU (.int .i64 ((sp.1 + ((j : Nat) : Int)) + mi : Int)) (ev_wrap (by kernel_rfl) (by omega) (by omega)) ?_
  refine pT (.pointer (some ⟨O5, 1, none⟩)) ?_
  refine pU (.int .i64 sp.2) (ex_load rfl (by kernel_rfl) (ld3 ((BoxAt.ext (hX17.trans hX27) bO5_1).1))) ?_
  refine pU (.bool true) (ev_dec (show _ = Result.ok (Next.value (Value.bool (decide (((sp.1 + ((j : Nat) : Int)) + mi : Int) ≤ (sp.2 : Int))))) _ from by kernel_rfl) (by omega)) ?_
  refine pl_nil ?_; refine qw_then ?_
  refine cw_t (by kernel_rfl) ?_
  refine cw_skip ?_
  refine qw_then ?_; refine cw_seq ?_
  refine cw_block ?_
  refine cw_seq ?_; refine cw_plain ?_; refine pT (.int .i64 (sp.1 + ((j : Nat) : Int) : Int)) ?_; refine pT (.int .i64 (sp.1 + ((j : Nat) : Int) : Int)) ?_; refine pT (.int .i64 mi) ?_
  refine pU (.int .i64 ((sp.1 + ((j : Nat) : Int)) + mi : Int)) (ev_wrap (by kernel_rfl) (by omega) (by omega)) ?_
  refine pT (.agg #[.int .i64 (sp.1 + ((j : Nat) : Int) : Int), .int .i64 ((sp.1 + ((j : Nat) : Int)) + mi : Int)]) ?_
  refine pS (sn_new (us := #[.int .i64 0, .int .i64 0]) (t := 26) (by kernel_rfl) ?_)
  intro O31 X32 hzO31 hyO31 hb hbx; have ⟨bO31_0, bO31_1⟩ := bx2 hbx; clear hbx
  replace hE := hE.trans hb; replace hX27 := hX27.trans hb; have hs33 := hb.size; clear hb; have lt34 := bO31_0.lt
  refine pP (sn_set2 (O := O31) (j := 0) (v := .int .i64 (sp.1 + ((j : Nat) : Int) : Int)) (v' := .int .i64 ((sp.1 + ((j : Nat) : Int)) + mi : Int)) (ex_store (p := .pointer (some ⟨O31, 0, none⟩)) (v := .agg #[.int .i64 (sp.1 + ((j : Nat) : Int) : Int), .int .i64 ((sp.1 + ((j : Nat) : Int)) + mi : Int)]) rfl (by kernel_rfl) (by kernel_rfl) (st26 bO31_0.1 bO31_0.2 bO31_1.1 bO31_1.2)) bO31_0 bO31_1 ?_)
  intro X35 ho hv0 hv1 hk; replace hE := ho.ext hE (T (T hs3 (T hs7 (T hs11 (T hs15 (T hs19 (T hs21 (T hs26 hs28))))))) (Nat.le_of_eq hzO31)); replace hX27 := ho.ext hX27 (T hs28 (Nat.le_of_eq hzO31)); have hs36 : X32.heap.size ≤ X35.heap.size := Nat.le_of_eq ho.size.symm; clear ho hk bO31_0 bO31_1; have bO31_0 := hv0; clear hv0; have bO31_1 := hv1; clear hv1; refine pl_nil ?_; refine qw_then ?_; refine cC8 2 3 5 6 10 14 15 16 (fun L => ?_); refine cw_seq ?_; refine cw_plain ?_; refine pT (.int .i64 0) ?_; refine pl_nil ?_; refine qw_then ?_
  refine cw_block ?_
  have hX37 : Ext X35 X35 := Ext.refl _
  refine cw_loop [2, 3, 5, 6, 10, 14, 15, 16, 17] (fun ws' wr m => ∃ k : Nat, ws' = [(2, .int .i64 mi), (3, .int .i64 (((W : Nat) : Int) : Int)), (5, .pointer (some ⟨O1, 0, none⟩)), (6, .pointer (some ⟨O5, 0, none⟩)), (10, .pointer (some ⟨O13, 0, none⟩)), (14, .slice aC22 ((Globe.cellsTo l 24).length) kC23), (15, .int .i64 (sp.1 + ((j : Nat) : Int) : Int)), (16, .pointer (some ⟨O31, 0, none⟩)), (17, .int .i64 (((k : Nat) : Int) : Int))] ∧ m = W + 1 - k ∧ X35.heap.size ≤ wr.heap.size ∧ Ext w wr ∧ Ext X35 wr ∧ Swath.NoHit (Swath.bestP o sp mi W l) (j * (2 * W + 2) + 2 * k) ∧ k ≤ W + 1) (ws0 := [(2, .int .i64 mi), (3, .int .i64 (((W : Nat) : Int) : Int)), (5, .pointer (some ⟨O1, 0, none⟩)), (6, .pointer (some ⟨O5, 0, none⟩)), (10, .pointer (some ⟨O13, 0, none⟩)), (14, .slice aC22 ((Globe.cellsTo l 24).length) kC23), (15, .int .i64 (sp.1 + ((j : Nat) : Int) : Int)), (16, .pointer (some ⟨O31, 0, none⟩)), (17, .int .i64 0)]) (by kernel_rfl) _ ⟨0, rfl, rfl, Nat.le_refl _, hE, hX37, (Swath.NoHit.le hitJ (by omega)), by omega⟩ ?_
  clear hE hX37
  rintro m40 L ws w39 ⟨k, rfl, rfl, hs38, hE, hX37, hitK, hk⟩
  by_cases hlt : k < W + 1
  ·
   have hltk := hlt; clear hlt; refine cw_seq ?_; refine cw_seq ?_; refine cw_plain ?_; refine pT (.int .i64 (((k : Nat) : Int) : Int)) ?_; refine pT (.int .i64 (((W : Nat) : Int) : Int)) ?_
   refine pU (.bool true) (ev_dec (show _ = Result.ok (Next.value (Value.bool (decide ((((k : Nat) : Int) : Int) ≤ (((W : Nat) : Int) : Int))))) _ from by kernel_rfl) (by omega)) ?_
   refine pl_nil ?_; refine qw_then ?_
   refine cw_t (by kernel_rfl) ?_
   refine cw_skip ?_
   refine qw_then ?_; refine cw_seq ?_
   refine cw_block ?_
   refine cw_seq ?_; refine cw_seq ?_
   have hsv : ∀ lk, -4 ≤ lk → lk ≤ 4 → Swath.shB o (sp.1 + ((j : Nat) : Int), sp.1 + ((j : Nat) : Int) + mi) lk = true := fun lk h0 h1 => Swath.shB_t.2 ⟨g1, ⟨by simp only []; omega, by simp only []; omega, by simp only []; omega, by simp only []; omega⟩, h0, h1⟩
   have hlk0 : Swath.lkQ (2 * k + 0) = ((k : Nat) : Int) := Swath.lk_even k
   have hfs0 := Swath.best_at (o := o) (sp := sp) (mi := mi) (wd := W) (l := l) (j := j) (x := 2 * k + 0) (by omega)
   rw [hlk0] at hfs0
   have hco0 : Globe.containsB (Swath.sureL o (sp.1 + ((j : Nat) : Int), sp.1 + ((j : Nat) : Int) + mi) (((k : Nat) : Int))) l = Swath.showsB o (sp.1 + ((j : Nat) : Int), sp.1 + ((j : Nat) : Int) + mi) (((k : Nat) : Int)) l := by unfold Swath.showsB; rw [hsv _ (by omega) (by omega)]; rfl
   rcases Bool.eq_false_or_eq_true (Swath.showsB o (sp.1 + ((j : Nat) : Int), sp.1 + ((j : Nat) : Int) + mi) (((k : Nat) : Int)) l) with hsh0 | hsh0
   ·
    have hbest := Swath.best_hit (o := o) (sp := sp) (mi := mi) (wd := W) (l := l) (j := j) (x := 2 * k + 0) (by omega) (by omega) (Swath.NoHit.le hitK (by omega)) (by rw [hlk0]; exact hsh0)
    rw [hlk0] at hbest
    refine cw_plain ?_
    have hY41 := hX17.trans hX27
    refine pU (.agg #[.int .i64 o.p, .int .i64 o.f, .int .i64 o.lo, .int .i64 o.hi, .int .i64 o.nd, .int .i64 o.tn, .int .i64 o.sl]) (ex_load rfl (by kernel_rfl) (ld24 ((BoxAt.ext (hY41.trans hX37) bO1_0).1) ((BoxAt.ext (hY41.trans hX37) bO1_1).1) ((BoxAt.ext (hY41.trans hX37) bO1_2).1) ((BoxAt.ext (hY41.trans hX37) bO1_3).1) ((BoxAt.ext (hY41.trans hX37) bO1_4).1) ((BoxAt.ext (hY41.trans hX37) bO1_5).1) ((BoxAt.ext (hY41.trans hX37) bO1_6).1))) ?_
    refine pU (.agg #[.int .i64 (sp.1 + ((j : Nat) : Int) : Int), .int .i64 ((sp.1 + ((j : Nat) : Int)) + mi : Int)]) (ex_load rfl (by kernel_rfl) (ld26 ((BoxAt.ext hX37 bO31_0).1) ((BoxAt.ext hX37 bO31_1).1))) ?_
    refine pT (.int .i64 (((k : Nat) : Int) : Int)) ?_; refine pT (.slice aC22 ((Globe.cellsTo l 24).length) kC23) ?_
    refine pS (sn_call (f := 62) (args := #[.agg #[.int .i64 o.p, .int .i64 o.f, .int .i64 o.lo, .int .i64 o.hi, .int .i64 o.nd, .int .i64 o.tn, .int .i64 o.sl], .agg #[.int .i64 (sp.1 + ((j : Nat) : Int) : Int), .int .i64 ((sp.1 + ((j : Nat) : Int)) + mi : Int)], .int .i64 (((k : Nat) : Int) : Int), .slice aC22 ((Globe.cellsTo l 24).length) kC23]) (by kernel_rfl) ((rcovers_c (o := o) (s := (sp.1 + ((j : Nat) : Int), sp.1 + ((j : Nat) : Int) + mi)) (lk := ((k : Nat) : Int)) (r := true) _ _ (hsv _ (by omega) (by omega)) hC24 (hX27.trans hX37) hlv rfl (hco0.trans hsh0)).mono ?_))
    rintro e w42 ⟨rfl, hb⟩
    replace hE := hE.trans hb; replace hX37 := hX37.trans hb; have hs43 := hb.size; clear hb
    refine ⟨_, rfl, ?_⟩
    refine pl_nil ?_; refine qw_then ?_; refine cC10 2 3 5 6 10 14 15 16 17 94 (fun L => ?_)
    refine cw_t (by kernel_rfl) ?_
    refine cw_seq ?_; refine cw_plain ?_
    refine pU (.agg #[.int .i64 (sp.1 + ((j : Nat) : Int) : Int), .int .i64 ((sp.1 + ((j : Nat) : Int)) + mi : Int)]) (ex_load rfl (by kernel_rfl) (ld26 ((BoxAt.ext hX37 bO31_0).1) ((BoxAt.ext hX37 bO31_1).1))) ?_
    refine pT (.int .i64 (((k : Nat) : Int) : Int)) ?_
    have bO1_t45 := (BoxAt.ext (hY41.trans hX37) bO1_0)
    have bO1_t46 := (BoxAt.ext (hY41.trans hX37) bO1_1)
    have bO1_t47 := (BoxAt.ext (hY41.trans hX37) bO1_2)
    have bO1_t48 := (BoxAt.ext (hY41.trans hX37) bO1_3)
    have bO1_t49 := (BoxAt.ext (hY41.trans hX37) bO1_4)
    have bO1_t50 := (BoxAt.ext (hY41.trans hX37) bO1_5)
    have bO1_t51 := (BoxAt.ext (hY41.trans hX37) bO1_6)
    have bO5_t52 := (BoxAt.ext (hY41.trans hX37) bO5_0)
    have bO5_t53 := (BoxAt.ext (hY41.trans hX37) bO5_1)
    have bO9_t54 := (BoxAt.ext (hY41.trans hX37) bO9_0)
    have bO13_t55 := (BoxAt.ext (hY41.trans hX37) bO13_0)
    have bO13_t56 := (BoxAt.ext (hY41.trans hX37) bO13_1)
    have bO31_t57 := (BoxAt.ext hX37 bO31_0)
    have bO31_t58 := (BoxAt.ext hX37 bO31_1)
    refine pP (sn_set2 (O := O13) (j := 0) (v := .int .i64 (sp.1 + ((j : Nat) : Int) : Int)) (v' := .int .i64 ((sp.1 + ((j : Nat) : Int)) + mi : Int)) (ex_store (p := .pointer (some ⟨O13, 0, none⟩)) (v := .agg #[.int .i64 (sp.1 + ((j : Nat) : Int) : Int), .int .i64 ((sp.1 + ((j : Nat) : Int)) + mi : Int)]) rfl (by kernel_rfl) (by kernel_rfl) (st26 bO13_t55.1 bO13_t55.2 bO13_t56.1 bO13_t56.2)) bO13_t55 bO13_t56 ?_)
    intro X44 ho hv0 hv1 hk; replace hE := ho.ext hE (T (T hs3 (T hs7 hs11)) (Nat.le_of_eq hzO13))
    have q9 := fun (j : Nat) (v : Value) (h : BoxAt _ O1 j v) => ho.box (Nat.ne_of_gt (Nat.lt_of_lt_of_le lt4 (T (T hs7 hs11) (Nat.le_of_eq hzO13)))) h
    replace bO1_t45 := q9 _ _ bO1_t45; replace bO1_t46 := q9 _ _ bO1_t46; replace bO1_t47 := q9 _ _ bO1_t47; replace bO1_t48 := q9 _ _ bO1_t48; replace bO1_t49 := q9 _ _ bO1_t49; replace bO1_t50 := q9 _ _ bO1_t50; replace bO1_t51 := q9 _ _ bO1_t51; clear q9
    have q9 := fun (j : Nat) (v : Value) (h : BoxAt _ O5 j v) => ho.box (Nat.ne_of_gt (Nat.lt_of_lt_of_le lt8 (T hs11 (Nat.le_of_eq hzO13)))) h
    replace bO5_t52 := q9 _ _ bO5_t52; replace bO5_t53 := q9 _ _ bO5_t53; clear q9; replace bO9_t54 := ho.box (Nat.ne_of_gt (Nat.lt_of_lt_of_le lt12 (Nat.le_of_eq hzO13))) bO9_t54
    have q9 := fun (j : Nat) (v : Value) (h : BoxAt _ O31 j v) => ho.box (Nat.ne_of_lt (Nat.lt_of_lt_of_le lt16 (T (T hs19 (T hs21 (T hs26 hs28))) (Nat.le_of_eq hzO31)))) h
    replace bO31_t57 := q9 _ _ bO31_t57; replace bO31_t58 := q9 _ _ bO31_t58; clear q9; have hs59 : w42.heap.size ≤ X44.heap.size := Nat.le_of_eq ho.size.symm; clear ho hk bO13_t55 bO13_t56; have bO13_t55 := hv0; clear hv0; have bO13_t56 := hv1; clear hv1; refine pT (.int .i64 (((k : Nat) : Int) : Int)) ?_; refine pT (.bool true) ?_; refine pT (.int .i64 0) ?_; refine pl_nil ?_; refine qw_then ?_; refine cC4 10 11 12 13 (fun L => ?_)
    refine cw_ret ?_
    refine qw_then_ret ?_
    refine qw_block_ret ?_
    refine qw_then_ret ?_
    refine qw_then_ret ?_
    refine qw_block_ret ?_
    refine qw_block_ret ?_
    refine qw_then_ret ?_
    refine qw_then_ret ?_
    refine qw_block_ret ?_
    refine qw_then_ret ?_
    refine qw_ret [.agg #[.int .i64 (sp.1 + ((j : Nat) : Int) : Int), .int .i64 ((sp.1 + ((j : Nat) : Int)) + mi : Int)], .int .i64 (((k : Nat) : Int) : Int), .bool true, .int .i64 0] rfl ⟨⟨_, by kernel_rfl, res_ld (ld26 (bO13_t55.1) (bO13_t56.1))⟩, (by kernel_rfl), (by kernel_rfl), (by kernel_rfl), trivial⟩ ?_
    exact ⟨by rw [hbest]; rfl, hE⟩
   ·
    have hit7 := Swath.NoHit.next (Swath.NoHit.le hitK (show j * (2 * W + 2) + (2 * k + 0) = _ by omega)) (hfs0.trans hsh0)
    refine cw_plain ?_
    have hY60 := hX17.trans hX27
    refine pU (.agg #[.int .i64 o.p, .int .i64 o.f, .int .i64 o.lo, .int .i64 o.hi, .int .i64 o.nd, .int .i64 o.tn, .int .i64 o.sl]) (ex_load rfl (by kernel_rfl) (ld24 ((BoxAt.ext (hY60.trans hX37) bO1_0).1) ((BoxAt.ext (hY60.trans hX37) bO1_1).1) ((BoxAt.ext (hY60.trans hX37) bO1_2).1) ((BoxAt.ext (hY60.trans hX37) bO1_3).1) ((BoxAt.ext (hY60.trans hX37) bO1_4).1) ((BoxAt.ext (hY60.trans hX37) bO1_5).1) ((BoxAt.ext (hY60.trans hX37) bO1_6).1))) ?_
    refine pU (.agg #[.int .i64 (sp.1 + ((j : Nat) : Int) : Int), .int .i64 ((sp.1 + ((j : Nat) : Int)) + mi : Int)]) (ex_load rfl (by kernel_rfl) (ld26 ((BoxAt.ext hX37 bO31_0).1) ((BoxAt.ext hX37 bO31_1).1))) ?_
    refine pT (.int .i64 (((k : Nat) : Int) : Int)) ?_; refine pT (.slice aC22 ((Globe.cellsTo l 24).length) kC23) ?_
    refine pS (sn_call (f := 62) (args := #[.agg #[.int .i64 o.p, .int .i64 o.f, .int .i64 o.lo, .int .i64 o.hi, .int .i64 o.nd, .int .i64 o.tn, .int .i64 o.sl], .agg #[.int .i64 (sp.1 + ((j : Nat) : Int) : Int), .int .i64 ((sp.1 + ((j : Nat) : Int)) + mi : Int)], .int .i64 (((k : Nat) : Int) : Int), .slice aC22 ((Globe.cellsTo l 24).length) kC23]) (by kernel_rfl) ((rcovers_c (o := o) (s := (sp.1 + ((j : Nat) : Int), sp.1 + ((j : Nat) : Int) + mi)) (lk := ((k : Nat) : Int)) (r := false) _ _ (hsv _ (by omega) (by omega)) hC24 (hX27.trans hX37) hlv rfl (hco0.trans hsh0)).mono ?_))
    rintro e w61 ⟨rfl, hb⟩
    replace hE := hE.trans hb; replace hX37 := hX37.trans hb; have hs62 := hb.size; clear hb
    refine ⟨_, rfl, ?_⟩
    refine pl_nil ?_; refine qw_then ?_; refine cC10 2 3 5 6 10 14 15 16 17 94 (fun L => ?_)
    refine cw_f (by kernel_rfl) ?_
    refine cw_skip ?_
    refine qw_then ?_; refine cw_seq ?_
    have hlk1 : Swath.lkQ (2 * k + 1) = -((k : Nat) : Int) := Swath.lk_odd k
    have hfs1 := Swath.best_at (o := o) (sp := sp) (mi := mi) (wd := W) (l := l) (j := j) (x := 2 * k + 1) (by omega)
    rw [hlk1] at hfs1
    have hco1 : Globe.containsB (Swath.sureL o (sp.1 + ((j : Nat) : Int), sp.1 + ((j : Nat) : Int) + mi) (-((k : Nat) : Int))) l = Swath.showsB o (sp.1 + ((j : Nat) : Int), sp.1 + ((j : Nat) : Int) + mi) (-((k : Nat) : Int)) l := by unfold Swath.showsB; rw [hsv _ (by omega) (by omega)]; rfl
    rcases Bool.eq_false_or_eq_true (Swath.showsB o (sp.1 + ((j : Nat) : Int), sp.1 + ((j : Nat) : Int) + mi) (-((k : Nat) : Int)) l) with hsh1 | hsh1
    ·
     have hbest := Swath.best_hit (o := o) (sp := sp) (mi := mi) (wd := W) (l := l) (j := j) (x := 2 * k + 1) (by omega) (by omega) (Swath.NoHit.le hit7 (by omega)) (by rw [hlk1]; exact hsh1)
     rw [hlk1] at hbest
     refine cw_plain ?_
     refine pU (.agg #[.int .i64 o.p, .int .i64 o.f, .int .i64 o.lo, .int .i64 o.hi, .int .i64 o.nd, .int .i64 o.tn, .int .i64 o.sl]) (ex_load rfl (by kernel_rfl) (ld24 ((BoxAt.ext (hY60.trans hX37) bO1_0).1) ((BoxAt.ext (hY60.trans hX37) bO1_1).1) ((BoxAt.ext (hY60.trans hX37) bO1_2).1) ((BoxAt.ext (hY60.trans hX37) bO1_3).1) ((BoxAt.ext (hY60.trans hX37) bO1_4).1) ((BoxAt.ext (hY60.trans hX37) bO1_5).1) ((BoxAt.ext (hY60.trans hX37) bO1_6).1))) ?_
     refine pU (.agg #[.int .i64 (sp.1 + ((j : Nat) : Int) : Int), .int .i64 ((sp.1 + ((j : Nat) : Int)) + mi : Int)]) (ex_load rfl (by kernel_rfl) (ld26 ((BoxAt.ext hX37 bO31_0).1) ((BoxAt.ext hX37 bO31_1).1))) ?_
     refine pT (.int .i64 (((k : Nat) : Int) : Int)) ?_
     refine pU (.int .i64 (-(((k : Nat) : Int)) : Int)) (ev_int (ev_wrap (a := 0 - (((k : Nat) : Int))) (by kernel_rfl) (by omega) (by omega)) (by omega)) ?_
     refine pT (.slice aC22 ((Globe.cellsTo l 24).length) kC23) ?_
     refine pS (sn_call (f := 62) (args := #[.agg #[.int .i64 o.p, .int .i64 o.f, .int .i64 o.lo, .int .i64 o.hi, .int .i64 o.nd, .int .i64 o.tn, .int .i64 o.sl], .agg #[.int .i64 (sp.1 + ((j : Nat) : Int) : Int), .int .i64 ((sp.1 + ((j : Nat) : Int)) + mi : Int)], .int .i64 (-(((k : Nat) : Int)) : Int), .slice aC22 ((Globe.cellsTo l 24).length) kC23]) (by kernel_rfl) ((rcovers_c (o := o) (s := (sp.1 + ((j : Nat) : Int), sp.1 + ((j : Nat) : Int) + mi)) (lk := -(((k : Nat) : Int))) (r := true) _ _ (hsv _ (by omega) (by omega)) hC24 (hX27.trans hX37) hlv rfl (hco1.trans hsh1)).mono ?_))
     rintro e w63 ⟨rfl, hb⟩
     replace hE := hE.trans hb; replace hX37 := hX37.trans hb; have hs64 := hb.size; clear hb
     refine ⟨_, rfl, ?_⟩
     refine pl_nil ?_; refine qw_then ?_; refine cC10 2 3 5 6 10 14 15 16 17 102 (fun L => ?_)
     refine cw_t (by kernel_rfl) ?_
     refine cw_seq ?_; refine cw_plain ?_
     refine pU (.agg #[.int .i64 (sp.1 + ((j : Nat) : Int) : Int), .int .i64 ((sp.1 + ((j : Nat) : Int)) + mi : Int)]) (ex_load rfl (by kernel_rfl) (ld26 ((BoxAt.ext hX37 bO31_0).1) ((BoxAt.ext hX37 bO31_1).1))) ?_
     refine pT (.int .i64 (((k : Nat) : Int) : Int)) ?_
     refine pU (.int .i64 (-(((k : Nat) : Int)) : Int)) (ev_int (ev_wrap (a := 0 - (((k : Nat) : Int))) (by kernel_rfl) (by omega) (by omega)) (by omega)) ?_
     have bO1_t66 := (BoxAt.ext (hY60.trans hX37) bO1_0)
     have bO1_t67 := (BoxAt.ext (hY60.trans hX37) bO1_1)
     have bO1_t68 := (BoxAt.ext (hY60.trans hX37) bO1_2)
     have bO1_t69 := (BoxAt.ext (hY60.trans hX37) bO1_3)
     have bO1_t70 := (BoxAt.ext (hY60.trans hX37) bO1_4)
     have bO1_t71 := (BoxAt.ext (hY60.trans hX37) bO1_5)
     have bO1_t72 := (BoxAt.ext (hY60.trans hX37) bO1_6)
     have bO5_t73 := (BoxAt.ext (hY60.trans hX37) bO5_0)
     have bO5_t74 := (BoxAt.ext (hY60.trans hX37) bO5_1)
     have bO9_t75 := (BoxAt.ext (hY60.trans hX37) bO9_0)
     have bO13_t76 := (BoxAt.ext (hY60.trans hX37) bO13_0)
     have bO13_t77 := (BoxAt.ext (hY60.trans hX37) bO13_1)
     have bO31_t78 := (BoxAt.ext hX37 bO31_0)
     have bO31_t79 := (BoxAt.ext hX37 bO31_1)
     refine pP (sn_set2 (O := O13) (j := 0) (v := .int .i64 (sp.1 + ((j : Nat) : Int) : Int)) (v' := .int .i64 ((sp.1 + ((j : Nat) : Int)) + mi : Int)) (ex_store (p := .pointer (some ⟨O13, 0, none⟩)) (v := .agg #[.int .i64 (sp.1 + ((j : Nat) : Int) : Int), .int .i64 ((sp.1 + ((j : Nat) : Int)) + mi : Int)]) rfl (by kernel_rfl) (by kernel_rfl) (st26 bO13_t76.1 bO13_t76.2 bO13_t77.1 bO13_t77.2)) bO13_t76 bO13_t77 ?_)
     intro X65 ho hv0 hv1 hk; replace hE := ho.ext hE (T (T hs3 (T hs7 hs11)) (Nat.le_of_eq hzO13))
     have q9 := fun (j : Nat) (v : Value) (h : BoxAt _ O1 j v) => ho.box (Nat.ne_of_gt (Nat.lt_of_lt_of_le lt4 (T (T hs7 hs11) (Nat.le_of_eq hzO13)))) h
     replace bO1_t66 := q9 _ _ bO1_t66; replace bO1_t67 := q9 _ _ bO1_t67; replace bO1_t68 := q9 _ _ bO1_t68; replace bO1_t69 := q9 _ _ bO1_t69; replace bO1_t70 := q9 _ _ bO1_t70; replace bO1_t71 := q9 _ _ bO1_t71; replace bO1_t72 := q9 _ _ bO1_t72; clear q9
     have q9 := fun (j : Nat) (v : Value) (h : BoxAt _ O5 j v) => ho.box (Nat.ne_of_gt (Nat.lt_of_lt_of_le lt8 (T hs11 (Nat.le_of_eq hzO13)))) h
     replace bO5_t73 := q9 _ _ bO5_t73; replace bO5_t74 := q9 _ _ bO5_t74; clear q9; replace bO9_t75 := ho.box (Nat.ne_of_gt (Nat.lt_of_lt_of_le lt12 (Nat.le_of_eq hzO13))) bO9_t75
     have q9 := fun (j : Nat) (v : Value) (h : BoxAt _ O31 j v) => ho.box (Nat.ne_of_lt (Nat.lt_of_lt_of_le lt16 (T (T hs19 (T hs21 (T hs26 hs28))) (Nat.le_of_eq hzO31)))) h
     replace bO31_t78 := q9 _ _ bO31_t78; replace bO31_t79 := q9 _ _ bO31_t79; clear q9; have hs80 : w63.heap.size ≤ X65.heap.size := Nat.le_of_eq ho.size.symm; clear ho hk bO13_t76 bO13_t77; have bO13_t76 := hv0; clear hv0; have bO13_t77 := hv1; clear hv1; refine pT (.int .i64 (-(((k : Nat) : Int)) : Int)) ?_; refine pT (.bool true) ?_; refine pT (.int .i64 0) ?_; refine pl_nil ?_; refine qw_then ?_; refine cC4 10 11 12 13 (fun L => ?_)
     refine cw_ret ?_
     refine qw_block_ret ?_
     refine qw_then_ret ?_
     refine qw_then_ret ?_
     refine qw_block_ret ?_
     refine qw_block_ret ?_
     refine qw_then_ret ?_
     refine qw_then_ret ?_
     refine qw_block_ret ?_
     refine qw_then_ret ?_
     refine qw_ret [.agg #[.int .i64 (sp.1 + ((j : Nat) : Int) : Int), .int .i64 ((sp.1 + ((j : Nat) : Int)) + mi : Int)], .int .i64 (-(((k : Nat) : Int)) : Int), .bool true, .int .i64 0] rfl ⟨⟨_, by kernel_rfl, res_ld (ld26 (bO13_t76.1) (bO13_t77.1))⟩, (by kernel_rfl), (by kernel_rfl), (by kernel_rfl), trivial⟩ ?_
     exact ⟨by rw [hbest]; rfl, hE⟩
    ·
     have hit9 := Swath.NoHit.next (Swath.NoHit.le hit7 (show j * (2 * W + 2) + (2 * k + 1) = _ by omega)) (hfs1.trans hsh1)
     refine cw_plain ?_
     refine pU (.agg #[.int .i64 o.p, .int .i64 o.f, .int .i64 o.lo, .int .i64 o.hi, .int .i64 o.nd, .int .i64 o.tn, .int .i64 o.sl]) (ex_load rfl (by kernel_rfl) (ld24 ((BoxAt.ext (hY60.trans hX37) bO1_0).1) ((BoxAt.ext (hY60.trans hX37) bO1_1).1) ((BoxAt.ext (hY60.trans hX37) bO1_2).1) ((BoxAt.ext (hY60.trans hX37) bO1_3).1) ((BoxAt.ext (hY60.trans hX37) bO1_4).1) ((BoxAt.ext (hY60.trans hX37) bO1_5).1) ((BoxAt.ext (hY60.trans hX37) bO1_6).1))) ?_
     refine pU (.agg #[.int .i64 (sp.1 + ((j : Nat) : Int) : Int), .int .i64 ((sp.1 + ((j : Nat) : Int)) + mi : Int)]) (ex_load rfl (by kernel_rfl) (ld26 ((BoxAt.ext hX37 bO31_0).1) ((BoxAt.ext hX37 bO31_1).1))) ?_
     refine pT (.int .i64 (((k : Nat) : Int) : Int)) ?_
     refine pU (.int .i64 (-(((k : Nat) : Int)) : Int)) (ev_int (ev_wrap (a := 0 - (((k : Nat) : Int))) (by kernel_rfl) (by omega) (by omega)) (by omega)) ?_
     refine pT (.slice aC22 ((Globe.cellsTo l 24).length) kC23) ?_
     refine pS (sn_call (f := 62) (args := #[.agg #[.int .i64 o.p, .int .i64 o.f, .int .i64 o.lo, .int .i64 o.hi, .int .i64 o.nd, .int .i64 o.tn, .int .i64 o.sl], .agg #[.int .i64 (sp.1 + ((j : Nat) : Int) : Int), .int .i64 ((sp.1 + ((j : Nat) : Int)) + mi : Int)], .int .i64 (-(((k : Nat) : Int)) : Int), .slice aC22 ((Globe.cellsTo l 24).length) kC23]) (by kernel_rfl) ((rcovers_c (o := o) (s := (sp.1 + ((j : Nat) : Int), sp.1 + ((j : Nat) : Int) + mi)) (lk := -(((k : Nat) : Int))) (r := false) _ _ (hsv _ (by omega) (by omega)) hC24 (hX27.trans hX37) hlv rfl (hco1.trans hsh1)).mono ?_))
     rintro e w81 ⟨rfl, hb⟩
     replace hE := hE.trans hb; replace hX37 := hX37.trans hb; have hs82 := hb.size; clear hb
     refine ⟨_, rfl, ?_⟩
     refine pl_nil ?_; refine qw_then ?_; refine cC10 2 3 5 6 10 14 15 16 17 102 (fun L => ?_)
     refine cw_f (by kernel_rfl) ?_
     refine cw_skip ?_
     refine qw_block ?_
     refine qw_then ?_; refine cw_plain ?_; refine pT (.int .i64 (((k : Nat) : Int) : Int)) ?_
     refine pU (.int .i64 (((k + 1 : Nat) : Int) : Int)) (ev_wrap (by kernel_rfl) (by omega) (by omega)) ?_
     refine pT (.int .i64 (((k + 1 : Nat) : Int) : Int)) ?_; refine pl_nil ?_
     refine qw_round [2, 3, 5, 6, 10, 14, 15, 16, 17] (ws' := [(2, .int .i64 mi), (3, .int .i64 (((W : Nat) : Int) : Int)), (5, .pointer (some ⟨O1, 0, none⟩)), (6, .pointer (some ⟨O5, 0, none⟩)), (10, .pointer (some ⟨O13, 0, none⟩)), (14, .slice aC22 ((Globe.cellsTo l 24).length) kC23), (15, .int .i64 (sp.1 + ((j : Nat) : Int) : Int)), (16, .pointer (some ⟨O31, 0, none⟩)), (17, .int .i64 (((k + 1 : Nat) : Int) : Int))]) (by kernel_rfl) _ ?_ ⟨(k + 1), rfl, rfl, (T hs38 (T hs62 hs82)), hE, hX37, (Swath.NoHit.le hit9 (by omega)), by omega⟩
     omega
  ·
   have hkw : k = W + 1 := by omega
   refine cw_seq ?_; refine cw_seq ?_; refine cw_plain ?_; refine pT (.int .i64 (((k : Nat) : Int) : Int)) ?_; refine pT (.int .i64 (((W : Nat) : Int) : Int)) ?_
   refine pU (.bool false) (ev_ndec (show _ = Result.ok (Next.value (Value.bool (decide ((((k : Nat) : Int) : Int) ≤ (((W : Nat) : Int) : Int))))) _ from by kernel_rfl) (by omega)) ?_
   refine pl_nil ?_; refine qw_then ?_
   refine cw_f (by kernel_rfl) ?_
   refine cw_exit ?_
   refine qw_then_exit ?_
   refine qw_then_exit ?_
   refine qw_block_out ?_
   refine qw_block ?_
   refine qw_then ?_; refine cw_plain ?_; refine pT (.int .i64 (sp.1 + ((j : Nat) : Int) : Int)) ?_
   refine pU (.int .i64 (sp.1 + ((j + 1 : Nat) : Int) : Int)) (ev_int (ev_wrap (a := sp.1 + ((j : Nat) : Int) + 1) (by kernel_rfl) (by omega) (by omega)) (by omega)) ?_
   refine pT (.int .i64 (sp.1 + ((j + 1 : Nat) : Int) : Int)) ?_; refine pl_nil ?_
   refine qw_round [2, 3, 5, 6, 10, 14, 15] (ws' := [(2, .int .i64 mi), (3, .int .i64 (((W : Nat) : Int) : Int)), (5, .pointer (some ⟨O1, 0, none⟩)), (6, .pointer (some ⟨O5, 0, none⟩)), (10, .pointer (some ⟨O13, 0, none⟩)), (14, .slice aC22 ((Globe.cellsTo l 24).length) kC23), (15, .int .i64 (sp.1 + ((j + 1 : Nat) : Int) : Int))]) (by kernel_rfl) _ ?_ ⟨(j + 1), rfl, rfl, (T hs28 (T hs33 (T hs36 hs38))), hE, (hX27.trans hX37), (Swath.NoHit.le hitK (by rw [Nat.succ_mul]; omega)), by omega⟩
   omega
 ·
  have hjn : j = Swath.starts sp mi := by omega
  refine cw_seq ?_; refine cw_seq ?_; refine cw_plain ?_; refine pT (.int .i64 (sp.1 + ((j : Nat) : Int) : Int)) ?_; refine pT (.int .i64 mi) ?_
  refine pU (.int .i64 ((sp.1 + ((j : Nat) : Int)) + mi : Int)) (ev_wrap (by kernel_rfl) (by omega) (by omega)) ?_
  refine pT (.pointer (some ⟨O5, 1, none⟩)) ?_
  refine pU (.int .i64 sp.2) (ex_load rfl (by kernel_rfl) (ld3 ((BoxAt.ext (hX17.trans hX27) bO5_1).1))) ?_
  refine pU (.bool false) (ev_ndec (show _ = Result.ok (Next.value (Value.bool (decide (((sp.1 + ((j : Nat) : Int)) + mi : Int) ≤ (sp.2 : Int))))) _ from by kernel_rfl) (by omega)) ?_
  refine pl_nil ?_; refine qw_then ?_
  refine cw_f (by kernel_rfl) ?_
  refine cw_exit ?_
  refine qw_then_exit ?_
  refine qw_then_exit ?_
  refine qw_block_out ?_
  refine qw_then ?_; refine cw_seq ?_; refine cw_plain ?_; refine pT (.agg #[.int .i64 0, .int .i64 0]) ?_
  have bO1_t84 := (BoxAt.ext (hX17.trans hX27) bO1_0)
  have bO1_t85 := (BoxAt.ext (hX17.trans hX27) bO1_1)
  have bO1_t86 := (BoxAt.ext (hX17.trans hX27) bO1_2)
  have bO1_t87 := (BoxAt.ext (hX17.trans hX27) bO1_3)
  have bO1_t88 := (BoxAt.ext (hX17.trans hX27) bO1_4)
  have bO1_t89 := (BoxAt.ext (hX17.trans hX27) bO1_5)
  have bO1_t90 := (BoxAt.ext (hX17.trans hX27) bO1_6)
  have bO5_t91 := (BoxAt.ext (hX17.trans hX27) bO5_0)
  have bO5_t92 := (BoxAt.ext (hX17.trans hX27) bO5_1)
  have bO9_t93 := (BoxAt.ext (hX17.trans hX27) bO9_0)
  have bO13_t94 := (BoxAt.ext (hX17.trans hX27) bO13_0)
  have bO13_t95 := (BoxAt.ext (hX17.trans hX27) bO13_1)
  refine pP (sn_set2 (O := O13) (j := 0) (v := .int .i64 0) (v' := .int .i64 0) (ex_store (p := .pointer (some ⟨O13, 0, none⟩)) (v := .agg #[.int .i64 0, .int .i64 0]) rfl (by kernel_rfl) (by kernel_rfl) (st26 bO13_t94.1 bO13_t94.2 bO13_t95.1 bO13_t95.2)) bO13_t94 bO13_t95 ?_)
  intro X83 ho hv0 hv1 hk; replace hE := ho.ext hE (T (T hs3 (T hs7 hs11)) (Nat.le_of_eq hzO13))
  have q9 := fun (j : Nat) (v : Value) (h : BoxAt _ O1 j v) => ho.box (Nat.ne_of_gt (Nat.lt_of_lt_of_le lt4 (T (T hs7 hs11) (Nat.le_of_eq hzO13)))) h
  replace bO1_t84 := q9 _ _ bO1_t84; replace bO1_t85 := q9 _ _ bO1_t85; replace bO1_t86 := q9 _ _ bO1_t86; replace bO1_t87 := q9 _ _ bO1_t87; replace bO1_t88 := q9 _ _ bO1_t88; replace bO1_t89 := q9 _ _ bO1_t89; replace bO1_t90 := q9 _ _ bO1_t90; clear q9
  have q9 := fun (j : Nat) (v : Value) (h : BoxAt _ O5 j v) => ho.box (Nat.ne_of_gt (Nat.lt_of_lt_of_le lt8 (T hs11 (Nat.le_of_eq hzO13)))) h
  replace bO5_t91 := q9 _ _ bO5_t91; replace bO5_t92 := q9 _ _ bO5_t92; clear q9; replace bO9_t93 := ho.box (Nat.ne_of_gt (Nat.lt_of_lt_of_le lt12 (Nat.le_of_eq hzO13))) bO9_t93; have hs96 : w29.heap.size ≤ X83.heap.size := Nat.le_of_eq ho.size.symm; clear ho hk bO13_t94 bO13_t95; have bO13_t94 := hv0; clear hv0; have bO13_t95 := hv1; clear hv1; refine pT (.int .i64 0) ?_; refine pT (.bool false) ?_; refine pT (.int .i64 0) ?_; refine pl_nil ?_; refine qw_then ?_; refine cC4 10 11 12 13 (fun L => ?_)
  refine cw_ret ?_
  refine qw_ret [.agg #[.int .i64 0, .int .i64 0], .int .i64 0, .bool false, .int .i64 0] rfl ⟨⟨_, by kernel_rfl, res_ld (ld26 (bO13_t94.1) (bO13_t95.1))⟩, (by kernel_rfl), (by kernel_rfl), (by kernel_rfl), trivial⟩ ?_
  have hbest := Swath.best_no (o := o) (sp := sp) (mi := mi) (wd := W) (l := l) (hjn ▸ hitJ)
  exact ⟨by rw [hbest]; rfl, hE⟩
set_option maxRecDepth 1000000 in
set_option maxHeartbeats 4000000 in
theorem rBest_n {w1 : World} {o : Orb} {sp : Int × Int} {mi : Int} {wd : Int} {bb ob : Nat} {l : List Int} (c : Nat) (w : World) (hA : VA w1 bb ob l) (e1 : Ext w1 w) (hno : (Orb.ok o && Swath.spB sp 300 && Globe.inB mi 1 60 && Globe.inB wd 0 4) = false) :
  Calls Try.prog 27 #[.agg #[.int .i64 o.p, .int .i64 o.f, .int .i64 o.lo, .int .i64 o.hi, .int .i64 o.nd, .int .i64 o.tn, .int .i64 o.sl], .agg #[.int .i64 sp.1, .int .i64 sp.2], .int .i64 mi, .int .i64 wd, .agg #[.slice (some ⟨bb, ob, none⟩) 24 c]] w fun e w' => e = .returned (.tuple #[.agg #[.int .i64 0, .int .i64 0], .int .i64 0, .bool false, .int .i64 80]) ∧ Ext w w' := by
 refine calls_cw 107 [(4, .agg #[.slice (some ⟨bb, ob, none⟩) 24 c]), (3, .int .i64 wd), (2, .int .i64 mi), (1, .agg #[.int .i64 sp.1, .int .i64 sp.2]), (0, .agg #[.int .i64 o.p, .int .i64 o.f, .int .i64 o.lo, .int .i64 o.hi, .int .i64 o.nd, .int .i64 o.tn, .int .i64 o.sl])] Try.func27 rfl Try.ntmps27 (by kernel_rfl) (by kernel_rfl) (fun L => ?_)
 have hE : Ext w w := Ext.refl w
 refine cw_seq ?_; refine cw_plain ?_
 refine pS (sn_new (us := #[.int .i64 o.p, .int .i64 o.f, .int .i64 o.lo, .int .i64 o.hi, .int .i64 o.nd, .int .i64 o.tn, .int .i64 o.sl]) (t := 24) (by kernel_rfl) ?_)
 intro O1 X2 hzO1 hyO1 hb hbx; have ⟨bO1_0, bO1_1, bO1_2, bO1_3, bO1_4, bO1_5, bO1_6⟩ := bx7 hbx; clear hbx
 replace hE := hE.trans hb; have hs3 := hb.size; clear hb; have lt4 := bO1_0.lt
 refine pS (sn_new (us := #[.int .i64 sp.1, .int .i64 sp.2]) (t := 26) (by kernel_rfl) ?_)
 intro O5 X6 hzO5 hyO5 hb hbx; have ⟨bO5_0, bO5_1⟩ := bx2 hbx; clear hbx
 replace hE := hE.trans hb; replace bO1_0 := BoxAt.ext hb bO1_0; replace bO1_1 := BoxAt.ext hb bO1_1; replace bO1_2 := BoxAt.ext hb bO1_2; replace bO1_3 := BoxAt.ext hb bO1_3; replace bO1_4 := BoxAt.ext hb bO1_4; replace bO1_5 := BoxAt.ext hb bO1_5; replace bO1_6 := BoxAt.ext hb bO1_6; have hs7 := hb.size; clear hb; have lt8 := bO5_0.lt
 refine pS (sn_new (us := #[.slice (some ⟨bb, ob, none⟩) 24 c]) (t := 31) (by kernel_rfl) ?_)
 intro O9 X10 hzO9 hyO9 hb hbx; have bO9_0 := bx1 hbx; clear hbx
 replace hE := hE.trans hb; replace bO1_0 := BoxAt.ext hb bO1_0; replace bO1_1 := BoxAt.ext hb bO1_1; replace bO1_2 := BoxAt.ext hb bO1_2; replace bO1_3 := BoxAt.ext hb bO1_3; replace bO1_4 := BoxAt.ext hb bO1_4; replace bO1_5 := BoxAt.ext hb bO1_5; replace bO1_6 := BoxAt.ext hb bO1_6; replace bO5_0 := BoxAt.ext hb bO5_0; replace bO5_1 := BoxAt.ext hb bO5_1; have hs11 := hb.size; clear hb; have lt12 := bO9_0.lt
 refine pS (sn_new (us := #[.int .i64 0, .int .i64 0]) (t := 26) (by kernel_rfl) ?_)
 intro O13 X14 hzO13 hyO13 hb hbx; have ⟨bO13_0, bO13_1⟩ := bx2 hbx; clear hbx
 replace hE := hE.trans hb; replace bO1_0 := BoxAt.ext hb bO1_0; replace bO1_1 := BoxAt.ext hb bO1_1; replace bO1_2 := BoxAt.ext hb bO1_2; replace bO1_3 := BoxAt.ext hb bO1_3; replace bO1_4 := BoxAt.ext hb bO1_4; replace bO1_5 := BoxAt.ext hb bO1_5; replace bO1_6 := BoxAt.ext hb bO1_6; replace bO5_0 := BoxAt.ext hb bO5_0; replace bO5_1 := BoxAt.ext hb bO5_1; replace bO9_0 := BoxAt.ext hb bO9_0; have hs15 := hb.size; clear hb; have lt16 := bO13_0.lt; refine pT (.int .i64 0) ?_; refine pT (.bool false) ?_; refine pT (.int .i64 0) ?_; refine pl_nil ?_; refine qw_then ?_; refine cw_seq ?_; refine cw_seq ?_; have hX17 : Ext X14 X14 := Ext.refl _; refine cw_plain ?_
 refine pU (.agg #[.int .i64 o.p, .int .i64 o.f, .int .i64 o.lo, .int .i64 o.hi, .int .i64 o.nd, .int .i64 o.tn, .int .i64 o.sl]) (ex_load rfl (by kernel_rfl) (ld24 (bO1_0.1) (bO1_1.1) (bO1_2.1) (bO1_3.1) (bO1_4.1) (bO1_5.1) (bO1_6.1))) ?_
 rcases Bool.eq_false_or_eq_true (Orb.ok o) with hb18 | hb18
 ·
  refine pS (sn_call (f := 58) (args := #[.agg #[.int .i64 o.p, .int .i64 o.f, .int .i64 o.lo, .int .i64 o.hi, .int .i64 o.nd, .int .i64 o.tn, .int .i64 o.sl]]) (by kernel_rfl) ((rOk_r (r := true) _ (hb18)).mono ?_))
  rintro e w19 ⟨rfl, hb⟩
  replace hE := hE.trans hb; replace hX17 := hX17.trans hb; have hs20 := hb.size; clear hb
  refine ⟨_, rfl, ?_⟩
  refine pT (.bool false) ?_; refine pT (.bool false) ?_; refine pT (.pointer (some ⟨O5, 0, none⟩)) ?_
  refine pU (.int .i64 sp.1) (ex_load rfl (by kernel_rfl) (ld3 ((BoxAt.ext hX17 bO5_0).1))) ?_
  by_cases hc21 : (sp.1 : Int) < (0 : Int)
  ·
   refine pU (.bool true) (ev_dec (show _ = Result.ok (Next.value (Value.bool (decide ((sp.1 : Int) < (0 : Int))))) _ from by kernel_rfl) (hc21)) ?_
   refine pT (.bool true) ?_; refine pT (.bool true) ?_; refine pK ?_; refine pK ?_; refine pK ?_; refine pK ?_; refine pK ?_; refine pT (.bool true) ?_; refine pT (.bool true) ?_; refine pK ?_; refine pK ?_; refine pK ?_; refine pT (.bool true) ?_; refine pT (.bool true) ?_; refine pK ?_; refine pK ?_; refine pK ?_; refine pK ?_; refine pK ?_; refine pK ?_; refine pT (.bool true) ?_; refine pT (.bool true) ?_; refine pK ?_; refine pK ?_; refine pT (.bool true) ?_; refine pT (.bool true) ?_; refine pK ?_; refine pK ?_; refine pT (.bool true) ?_; refine pT (.bool true) ?_; refine pK ?_; refine pK ?_; refine pT (.bool true) ?_; refine pT (.bool true) ?_; refine pK ?_; refine pK ?_; refine pT (.bool true) ?_; refine pT (.bool true) ?_; refine pK ?_; refine pK ?_; refine pK ?_; refine pT (.bool true) ?_; refine pl_nil ?_; refine qw_then ?_; refine cC7 2 3 5 6 9 10 66 (fun L => ?_)
   refine cw_t (by kernel_rfl) ?_
   refine cw_seq ?_; refine cw_plain ?_; refine pT (.agg #[.int .i64 0, .int .i64 0]) ?_
   have bO1_t23 := (BoxAt.ext hX17 bO1_0)
   have bO1_t24 := (BoxAt.ext hX17 bO1_1)
   have bO1_t25 := (BoxAt.ext hX17 bO1_2)
   have bO1_t26 := (BoxAt.ext hX17 bO1_3)
   have bO1_t27 := (BoxAt.ext hX17 bO1_4)
   have bO1_t28 := (BoxAt.ext hX17 bO1_5)
   have bO1_t29 := (BoxAt.ext hX17 bO1_6)
   have bO5_t30 := (BoxAt.ext hX17 bO5_0)
   have bO5_t31 := (BoxAt.ext hX17 bO5_1)
   have bO9_t32 := (BoxAt.ext hX17 bO9_0)
   have bO13_t33 := (BoxAt.ext hX17 bO13_0)
   have bO13_t34 := (BoxAt.ext hX17 bO13_1)
   refine pP (sn_set2 (O := O13) (j := 0) (v := .int .i64 0) (v' := .int .i64 0) (ex_store (p := .pointer (some ⟨O13, 0, none⟩)) (v := .agg #[.int .i64 0, .int .i64 0]) rfl (by kernel_rfl) (by kernel_rfl) (st26 bO13_t33.1 bO13_t33.2 bO13_t34.1 bO13_t34.2)) bO13_t33 bO13_t34 ?_)
   intro X22 ho hv0 hv1 hk; replace hE := ho.ext hE (T (T hs3 (T hs7 hs11)) (Nat.le_of_eq hzO13))
   have q9 := fun (j : Nat) (v : Value) (h : BoxAt _ O1 j v) => ho.box (Nat.ne_of_gt (Nat.lt_of_lt_of_le lt4 (T (T hs7 hs11) (Nat.le_of_eq hzO13)))) h
   replace bO1_t23 := q9 _ _ bO1_t23; replace bO1_t24 := q9 _ _ bO1_t24; replace bO1_t25 := q9 _ _ bO1_t25; replace bO1_t26 := q9 _ _ bO1_t26; replace bO1_t27 := q9 _ _ bO1_t27; replace bO1_t28 := q9 _ _ bO1_t28; replace bO1_t29 := q9 _ _ bO1_t29; clear q9
   have q9 := fun (j : Nat) (v : Value) (h : BoxAt _ O5 j v) => ho.box (Nat.ne_of_gt (Nat.lt_of_lt_of_le lt8 (T hs11 (Nat.le_of_eq hzO13)))) h
   replace bO5_t30 := q9 _ _ bO5_t30; replace bO5_t31 := q9 _ _ bO5_t31; clear q9; replace bO9_t32 := ho.box (Nat.ne_of_gt (Nat.lt_of_lt_of_le lt12 (Nat.le_of_eq hzO13))) bO9_t32; have hs35 : w19.heap.size ≤ X22.heap.size := Nat.le_of_eq ho.size.symm; clear ho hk bO13_t33 bO13_t34; have bO13_t33 := hv0; clear hv0; have bO13_t34 := hv1; clear hv1; refine pT (.int .i64 0) ?_; refine pT (.bool false) ?_; refine pT (.int .i64 80) ?_; refine pl_nil ?_; refine qw_then ?_
   refine cw_ret ?_
   refine qw_then_ret ?_
   refine qw_ret [.agg #[.int .i64 0, .int .i64 0], .int .i64 0, .bool false, .int .i64 80] rfl ⟨⟨_, by kernel_rfl, res_ld (ld26 (bO13_t33.1) (bO13_t34.1))⟩, (by kernel_rfl), (by kernel_rfl), (by kernel_rfl), trivial⟩ ?_
   exact ⟨rfl, hE⟩
  ·
   refine pU (.bool false) (ev_ndec (show _ = Result.ok (Next.value (Value.bool (decide ((sp.1 : Int) < (0 : Int))))) _ from by kernel_rfl) (hc21)) ?_
   refine pT (.bool false) ?_; refine pT (.bool false) ?_; refine pT (.pointer (some ⟨O5, 0, none⟩)) ?_
   refine pU (.int .i64 sp.1) (ex_load rfl (by kernel_rfl) (ld3 ((BoxAt.ext hX17 bO5_0).1))) ?_
   refine pT (.pointer (some ⟨O5, 1, none⟩)) ?_
   refine pU (.int .i64 sp.2) (ex_load rfl (by kernel_rfl) (ld3 ((BoxAt.ext hX17 bO5_1).1))) ?_
   by_cases hc36 : (sp.1 : Int) ≥ (sp.2 : Int)
   ·
    refine pU (.bool true) (ev_dec (show _ = Result.ok (Next.value (Value.bool (decide ((sp.1 : Int) ≥ (sp.2 : Int))))) _ from by kernel_rfl) (hc36)) ?_
    refine pT (.bool true) ?_; refine pT (.bool true) ?_; refine pK ?_; refine pK ?_; refine pK ?_; refine pT (.bool true) ?_; refine pT (.bool true) ?_; refine pK ?_; refine pK ?_; refine pK ?_; refine pK ?_; refine pK ?_; refine pK ?_; refine pT (.bool true) ?_; refine pT (.bool true) ?_; refine pK ?_; refine pK ?_; refine pT (.bool true) ?_; refine pT (.bool true) ?_; refine pK ?_; refine pK ?_; refine pT (.bool true) ?_; refine pT (.bool true) ?_; refine pK ?_; refine pK ?_; refine pT (.bool true) ?_; refine pT (.bool true) ?_; refine pK ?_; refine pK ?_; refine pT (.bool true) ?_; refine pT (.bool true) ?_; refine pK ?_; refine pK ?_; refine pK ?_; refine pT (.bool true) ?_; refine pl_nil ?_; refine qw_then ?_; refine cC7 2 3 5 6 9 10 66 (fun L => ?_)
    refine cw_t (by kernel_rfl) ?_
    refine cw_seq ?_; refine cw_plain ?_; refine pT (.agg #[.int .i64 0, .int .i64 0]) ?_
    have bO1_t38 := (BoxAt.ext hX17 bO1_0)
    have bO1_t39 := (BoxAt.ext hX17 bO1_1)
    have bO1_t40 := (BoxAt.ext hX17 bO1_2)
    have bO1_t41 := (BoxAt.ext hX17 bO1_3)
    have bO1_t42 := (BoxAt.ext hX17 bO1_4)
    have bO1_t43 := (BoxAt.ext hX17 bO1_5)
    have bO1_t44 := (BoxAt.ext hX17 bO1_6)
    have bO5_t45 := (BoxAt.ext hX17 bO5_0)
    have bO5_t46 := (BoxAt.ext hX17 bO5_1)
    have bO9_t47 := (BoxAt.ext hX17 bO9_0)
    have bO13_t48 := (BoxAt.ext hX17 bO13_0)
    have bO13_t49 := (BoxAt.ext hX17 bO13_1)
    refine pP (sn_set2 (O := O13) (j := 0) (v := .int .i64 0) (v' := .int .i64 0) (ex_store (p := .pointer (some ⟨O13, 0, none⟩)) (v := .agg #[.int .i64 0, .int .i64 0]) rfl (by kernel_rfl) (by kernel_rfl) (st26 bO13_t48.1 bO13_t48.2 bO13_t49.1 bO13_t49.2)) bO13_t48 bO13_t49 ?_)
    intro X37 ho hv0 hv1 hk; replace hE := ho.ext hE (T (T hs3 (T hs7 hs11)) (Nat.le_of_eq hzO13))
    have q9 := fun (j : Nat) (v : Value) (h : BoxAt _ O1 j v) => ho.box (Nat.ne_of_gt (Nat.lt_of_lt_of_le lt4 (T (T hs7 hs11) (Nat.le_of_eq hzO13)))) h
    replace bO1_t38 := q9 _ _ bO1_t38; replace bO1_t39 := q9 _ _ bO1_t39; replace bO1_t40 := q9 _ _ bO1_t40; replace bO1_t41 := q9 _ _ bO1_t41; replace bO1_t42 := q9 _ _ bO1_t42; replace bO1_t43 := q9 _ _ bO1_t43; replace bO1_t44 := q9 _ _ bO1_t44; clear q9
    have q9 := fun (j : Nat) (v : Value) (h : BoxAt _ O5 j v) => ho.box (Nat.ne_of_gt (Nat.lt_of_lt_of_le lt8 (T hs11 (Nat.le_of_eq hzO13)))) h
    replace bO5_t45 := q9 _ _ bO5_t45; replace bO5_t46 := q9 _ _ bO5_t46; clear q9; replace bO9_t47 := ho.box (Nat.ne_of_gt (Nat.lt_of_lt_of_le lt12 (Nat.le_of_eq hzO13))) bO9_t47; have hs50 : w19.heap.size ≤ X37.heap.size := Nat.le_of_eq ho.size.symm; clear ho hk bO13_t48 bO13_t49; have bO13_t48 := hv0; clear hv0; have bO13_t49 := hv1; clear hv1; refine pT (.int .i64 0) ?_; refine pT (.bool false) ?_; refine pT (.int .i64 80) ?_; refine pl_nil ?_; refine qw_then ?_
    refine cw_ret ?_
    refine qw_then_ret ?_
    refine qw_ret [.agg #[.int .i64 0, .int .i64 0], .int .i64 0, .bool false, .int .i64 80] rfl ⟨⟨_, by kernel_rfl, res_ld (ld26 (bO13_t48.1) (bO13_t49.1))⟩, (by kernel_rfl), (by kernel_rfl), (by kernel_rfl), trivial⟩ ?_
    exact ⟨rfl, hE⟩
   ·
    refine pU (.bool false) (ev_ndec (show _ = Result.ok (Next.value (Value.bool (decide ((sp.1 : Int) ≥ (sp.2 : Int))))) _ from by kernel_rfl) (hc36)) ?_
    refine pT (.bool false) ?_; refine pT (.bool false) ?_; refine pT (.pointer (some ⟨O5, 1, none⟩)) ?_
    refine pU (.int .i64 sp.2) (ex_load rfl (by kernel_rfl) (ld3 ((BoxAt.ext hX17 bO5_1).1))) ?_
    by_cases hc51 : (sp.2 : Int) > (1000001 : Int)
    ·
     refine pU (.bool true) (ev_dec (show _ = Result.ok (Next.value (Value.bool (decide ((sp.2 : Int) > (1000001 : Int))))) _ from by kernel_rfl) (hc51)) ?_
     refine pT (.bool true) ?_; refine pT (.bool true) ?_; refine pK ?_; refine pK ?_; refine pK ?_; refine pK ?_; refine pK ?_; refine pK ?_; refine pT (.bool true) ?_; refine pT (.bool true) ?_; refine pK ?_; refine pK ?_; refine pT (.bool true) ?_; refine pT (.bool true) ?_; refine pK ?_; refine pK ?_; refine pT (.bool true) ?_; refine pT (.bool true) ?_; refine pK ?_; refine pK ?_; refine pT (.bool true) ?_; refine pT (.bool true) ?_; refine pK ?_; refine pK ?_; refine pT (.bool true) ?_; refine pT (.bool true) ?_; refine pK ?_; refine pK ?_; refine pK ?_; refine pT (.bool true) ?_; refine pl_nil ?_; refine qw_then ?_; refine cC7 2 3 5 6 9 10 66 (fun L => ?_)
     refine cw_t (by kernel_rfl) ?_
     refine cw_seq ?_; refine cw_plain ?_; refine pT (.agg #[.int .i64 0, .int .i64 0]) ?_
     have bO1_t53 := (BoxAt.ext hX17 bO1_0)
     have bO1_t54 := (BoxAt.ext hX17 bO1_1)
     have bO1_t55 := (BoxAt.ext hX17 bO1_2)
     have bO1_t56 := (BoxAt.ext hX17 bO1_3)
     have bO1_t57 := (BoxAt.ext hX17 bO1_4)
     have bO1_t58 := (BoxAt.ext hX17 bO1_5)
     have bO1_t59 := (BoxAt.ext hX17 bO1_6)
     have bO5_t60 := (BoxAt.ext hX17 bO5_0)
     have bO5_t61 := (BoxAt.ext hX17 bO5_1)
     have bO9_t62 := (BoxAt.ext hX17 bO9_0)
     have bO13_t63 := (BoxAt.ext hX17 bO13_0)
     have bO13_t64 := (BoxAt.ext hX17 bO13_1)
     refine pP (sn_set2 (O := O13) (j := 0) (v := .int .i64 0) (v' := .int .i64 0) (ex_store (p := .pointer (some ⟨O13, 0, none⟩)) (v := .agg #[.int .i64 0, .int .i64 0]) rfl (by kernel_rfl) (by kernel_rfl) (st26 bO13_t63.1 bO13_t63.2 bO13_t64.1 bO13_t64.2)) bO13_t63 bO13_t64 ?_)
     intro X52 ho hv0 hv1 hk; replace hE := ho.ext hE (T (T hs3 (T hs7 hs11)) (Nat.le_of_eq hzO13))
     have q9 := fun (j : Nat) (v : Value) (h : BoxAt _ O1 j v) => ho.box (Nat.ne_of_gt (Nat.lt_of_lt_of_le lt4 (T (T hs7 hs11) (Nat.le_of_eq hzO13)))) h
     replace bO1_t53 := q9 _ _ bO1_t53; replace bO1_t54 := q9 _ _ bO1_t54; replace bO1_t55 := q9 _ _ bO1_t55; replace bO1_t56 := q9 _ _ bO1_t56; replace bO1_t57 := q9 _ _ bO1_t57; replace bO1_t58 := q9 _ _ bO1_t58; replace bO1_t59 := q9 _ _ bO1_t59; clear q9
     have q9 := fun (j : Nat) (v : Value) (h : BoxAt _ O5 j v) => ho.box (Nat.ne_of_gt (Nat.lt_of_lt_of_le lt8 (T hs11 (Nat.le_of_eq hzO13)))) h
     replace bO5_t60 := q9 _ _ bO5_t60; replace bO5_t61 := q9 _ _ bO5_t61; clear q9; replace bO9_t62 := ho.box (Nat.ne_of_gt (Nat.lt_of_lt_of_le lt12 (Nat.le_of_eq hzO13))) bO9_t62; have hs65 : w19.heap.size ≤ X52.heap.size := Nat.le_of_eq ho.size.symm; clear ho hk bO13_t63 bO13_t64; have bO13_t63 := hv0; clear hv0; have bO13_t64 := hv1; clear hv1; refine pT (.int .i64 0) ?_; refine pT (.bool false) ?_; refine pT (.int .i64 80) ?_; refine pl_nil ?_; refine qw_then ?_
     refine cw_ret ?_
     refine qw_then_ret ?_
     refine qw_ret [.agg #[.int .i64 0, .int .i64 0], .int .i64 0, .bool false, .int .i64 80] rfl ⟨⟨_, by kernel_rfl, res_ld (ld26 (bO13_t63.1) (bO13_t64.1))⟩, (by kernel_rfl), (by kernel_rfl), (by kernel_rfl), trivial⟩ ?_
     exact ⟨rfl, hE⟩
    ·
     refine pU (.bool false) (ev_ndec (show _ = Result.ok (Next.value (Value.bool (decide ((sp.2 : Int) > (1000001 : Int))))) _ from by kernel_rfl) (hc51)) ?_
     refine pT (.bool false) ?_; refine pT (.bool false) ?_; refine pT (.pointer (some ⟨O5, 1, none⟩)) ?_
     refine pU (.int .i64 sp.2) (ex_load rfl (by kernel_rfl) (ld3 ((BoxAt.ext hX17 bO5_1).1))) ?_
     refine pT (.pointer (some ⟨O5, 0, none⟩)) ?_
     refine pU (.int .i64 sp.1) (ex_load rfl (by kernel_rfl) (ld3 ((BoxAt.ext hX17 bO5_0).1))) ?_
     refine pU (.int .i64 (sp.2 - sp.1 : Int)) (ev_wrap (by kernel_rfl) (by omega) (by omega)) ?_
     by_cases hc66 : (sp.2 - sp.1 : Int) > (300 : Int)
     ·
      refine pU (.bool true) (ev_dec (show _ = Result.ok (Next.value (Value.bool (decide ((sp.2 - sp.1 : Int) > (300 : Int))))) _ from by kernel_rfl) (hc66)) ?_
      refine pT (.bool true) ?_; refine pT (.bool true) ?_; refine pK ?_; refine pK ?_; refine pT (.bool true) ?_; refine pT (.bool true) ?_; refine pK ?_; refine pK ?_; refine pT (.bool true) ?_; refine pT (.bool true) ?_; refine pK ?_; refine pK ?_; refine pT (.bool true) ?_; refine pT (.bool true) ?_; refine pK ?_; refine pK ?_; refine pT (.bool true) ?_; refine pT (.bool true) ?_; refine pK ?_; refine pK ?_; refine pK ?_; refine pT (.bool true) ?_; refine pl_nil ?_; refine qw_then ?_; refine cC7 2 3 5 6 9 10 66 (fun L => ?_)
      refine cw_t (by kernel_rfl) ?_
      refine cw_seq ?_; refine cw_plain ?_; refine pT (.agg #[.int .i64 0, .int .i64 0]) ?_
      have bO1_t68 := (BoxAt.ext hX17 bO1_0)
      have bO1_t69 := (BoxAt.ext hX17 bO1_1)
      have bO1_t70 := (BoxAt.ext hX17 bO1_2)
      have bO1_t71 := (BoxAt.ext hX17 bO1_3)
      have bO1_t72 := (BoxAt.ext hX17 bO1_4)
      have bO1_t73 := (BoxAt.ext hX17 bO1_5)
      have bO1_t74 := (BoxAt.ext hX17 bO1_6)
      have bO5_t75 := (BoxAt.ext hX17 bO5_0)
      have bO5_t76 := (BoxAt.ext hX17 bO5_1)
      have bO9_t77 := (BoxAt.ext hX17 bO9_0)
      have bO13_t78 := (BoxAt.ext hX17 bO13_0)
      have bO13_t79 := (BoxAt.ext hX17 bO13_1)
      refine pP (sn_set2 (O := O13) (j := 0) (v := .int .i64 0) (v' := .int .i64 0) (ex_store (p := .pointer (some ⟨O13, 0, none⟩)) (v := .agg #[.int .i64 0, .int .i64 0]) rfl (by kernel_rfl) (by kernel_rfl) (st26 bO13_t78.1 bO13_t78.2 bO13_t79.1 bO13_t79.2)) bO13_t78 bO13_t79 ?_)
      intro X67 ho hv0 hv1 hk; replace hE := ho.ext hE (T (T hs3 (T hs7 hs11)) (Nat.le_of_eq hzO13))
      have q9 := fun (j : Nat) (v : Value) (h : BoxAt _ O1 j v) => ho.box (Nat.ne_of_gt (Nat.lt_of_lt_of_le lt4 (T (T hs7 hs11) (Nat.le_of_eq hzO13)))) h
      replace bO1_t68 := q9 _ _ bO1_t68; replace bO1_t69 := q9 _ _ bO1_t69; replace bO1_t70 := q9 _ _ bO1_t70; replace bO1_t71 := q9 _ _ bO1_t71; replace bO1_t72 := q9 _ _ bO1_t72; replace bO1_t73 := q9 _ _ bO1_t73; replace bO1_t74 := q9 _ _ bO1_t74; clear q9
      have q9 := fun (j : Nat) (v : Value) (h : BoxAt _ O5 j v) => ho.box (Nat.ne_of_gt (Nat.lt_of_lt_of_le lt8 (T hs11 (Nat.le_of_eq hzO13)))) h
      replace bO5_t75 := q9 _ _ bO5_t75; replace bO5_t76 := q9 _ _ bO5_t76; clear q9; replace bO9_t77 := ho.box (Nat.ne_of_gt (Nat.lt_of_lt_of_le lt12 (Nat.le_of_eq hzO13))) bO9_t77; have hs80 : w19.heap.size ≤ X67.heap.size := Nat.le_of_eq ho.size.symm; clear ho hk bO13_t78 bO13_t79; have bO13_t78 := hv0; clear hv0; have bO13_t79 := hv1; clear hv1; refine pT (.int .i64 0) ?_; refine pT (.bool false) ?_; refine pT (.int .i64 80) ?_; refine pl_nil ?_; refine qw_then ?_
      refine cw_ret ?_
      refine qw_then_ret ?_
      refine qw_ret [.agg #[.int .i64 0, .int .i64 0], .int .i64 0, .bool false, .int .i64 80] rfl ⟨⟨_, by kernel_rfl, res_ld (ld26 (bO13_t78.1) (bO13_t79.1))⟩, (by kernel_rfl), (by kernel_rfl), (by kernel_rfl), trivial⟩ ?_
      exact ⟨rfl, hE⟩
     ·
      refine pU (.bool false) (ev_ndec (show _ = Result.ok (Next.value (Value.bool (decide ((sp.2 - sp.1 : Int) > (300 : Int))))) _ from by kernel_rfl) (hc66)) ?_
      refine pT (.bool false) ?_; refine pT (.bool false) ?_; refine pT (.int .i64 mi) ?_
      by_cases hc81 : (mi : Int) < (1 : Int)
      ·
       refine pU (.bool true) (ev_dec (show _ = Result.ok (Next.value (Value.bool (decide ((mi : Int) < (1 : Int))))) _ from by kernel_rfl) (hc81)) ?_
       refine pT (.bool true) ?_; refine pT (.bool true) ?_; refine pK ?_; refine pK ?_; refine pT (.bool true) ?_; refine pT (.bool true) ?_; refine pK ?_; refine pK ?_; refine pT (.bool true) ?_; refine pT (.bool true) ?_; refine pK ?_; refine pK ?_; refine pT (.bool true) ?_; refine pT (.bool true) ?_; refine pK ?_; refine pK ?_; refine pK ?_; refine pT (.bool true) ?_; refine pl_nil ?_; refine qw_then ?_; refine cC7 2 3 5 6 9 10 66 (fun L => ?_)
       refine cw_t (by kernel_rfl) ?_
       refine cw_seq ?_; refine cw_plain ?_; refine pT (.agg #[.int .i64 0, .int .i64 0]) ?_
       have bO1_t83 := (BoxAt.ext hX17 bO1_0)
       have bO1_t84 := (BoxAt.ext hX17 bO1_1)
       have bO1_t85 := (BoxAt.ext hX17 bO1_2)
       have bO1_t86 := (BoxAt.ext hX17 bO1_3)
       have bO1_t87 := (BoxAt.ext hX17 bO1_4)
       have bO1_t88 := (BoxAt.ext hX17 bO1_5)
       have bO1_t89 := (BoxAt.ext hX17 bO1_6)
       have bO5_t90 := (BoxAt.ext hX17 bO5_0)
       have bO5_t91 := (BoxAt.ext hX17 bO5_1)
       have bO9_t92 := (BoxAt.ext hX17 bO9_0)
       have bO13_t93 := (BoxAt.ext hX17 bO13_0)
       have bO13_t94 := (BoxAt.ext hX17 bO13_1)
       refine pP (sn_set2 (O := O13) (j := 0) (v := .int .i64 0) (v' := .int .i64 0) (ex_store (p := .pointer (some ⟨O13, 0, none⟩)) (v := .agg #[.int .i64 0, .int .i64 0]) rfl (by kernel_rfl) (by kernel_rfl) (st26 bO13_t93.1 bO13_t93.2 bO13_t94.1 bO13_t94.2)) bO13_t93 bO13_t94 ?_)
       intro X82 ho hv0 hv1 hk; replace hE := ho.ext hE (T (T hs3 (T hs7 hs11)) (Nat.le_of_eq hzO13))
       have q9 := fun (j : Nat) (v : Value) (h : BoxAt _ O1 j v) => ho.box (Nat.ne_of_gt (Nat.lt_of_lt_of_le lt4 (T (T hs7 hs11) (Nat.le_of_eq hzO13)))) h
       replace bO1_t83 := q9 _ _ bO1_t83; replace bO1_t84 := q9 _ _ bO1_t84; replace bO1_t85 := q9 _ _ bO1_t85; replace bO1_t86 := q9 _ _ bO1_t86; replace bO1_t87 := q9 _ _ bO1_t87; replace bO1_t88 := q9 _ _ bO1_t88; replace bO1_t89 := q9 _ _ bO1_t89; clear q9
       have q9 := fun (j : Nat) (v : Value) (h : BoxAt _ O5 j v) => ho.box (Nat.ne_of_gt (Nat.lt_of_lt_of_le lt8 (T hs11 (Nat.le_of_eq hzO13)))) h
       replace bO5_t90 := q9 _ _ bO5_t90; replace bO5_t91 := q9 _ _ bO5_t91; clear q9; replace bO9_t92 := ho.box (Nat.ne_of_gt (Nat.lt_of_lt_of_le lt12 (Nat.le_of_eq hzO13))) bO9_t92; have hs95 : w19.heap.size ≤ X82.heap.size := Nat.le_of_eq ho.size.symm; clear ho hk bO13_t93 bO13_t94; have bO13_t93 := hv0; clear hv0; have bO13_t94 := hv1; clear hv1; refine pT (.int .i64 0) ?_; refine pT (.bool false) ?_; refine pT (.int .i64 80) ?_; refine pl_nil ?_; refine qw_then ?_
       refine cw_ret ?_
       refine qw_then_ret ?_
       refine qw_ret [.agg #[.int .i64 0, .int .i64 0], .int .i64 0, .bool false, .int .i64 80] rfl ⟨⟨_, by kernel_rfl, res_ld (ld26 (bO13_t93.1) (bO13_t94.1))⟩, (by kernel_rfl), (by kernel_rfl), (by kernel_rfl), trivial⟩ ?_
       exact ⟨rfl, hE⟩
      ·
       refine pU (.bool false) (ev_ndec (show _ = Result.ok (Next.value (Value.bool (decide ((mi : Int) < (1 : Int))))) _ from by kernel_rfl) (hc81)) ?_
       refine pT (.bool false) ?_; refine pT (.bool false) ?_; refine pT (.int .i64 mi) ?_
       by_cases hc96 : (mi : Int) > (60 : Int)
       ·
        refine pU (.bool true) (ev_dec (show _ = Result.ok (Next.value (Value.bool (decide ((mi : Int) > (60 : Int))))) _ from by kernel_rfl) (hc96)) ?_
        refine pT (.bool true) ?_; refine pT (.bool true) ?_; refine pK ?_; refine pK ?_; refine pT (.bool true) ?_; refine pT (.bool true) ?_; refine pK ?_; refine pK ?_; refine pT (.bool true) ?_; refine pT (.bool true) ?_; refine pK ?_; refine pK ?_; refine pK ?_; refine pT (.bool true) ?_; refine pl_nil ?_; refine qw_then ?_; refine cC7 2 3 5 6 9 10 66 (fun L => ?_)
        refine cw_t (by kernel_rfl) ?_
        refine cw_seq ?_; refine cw_plain ?_; refine pT (.agg #[.int .i64 0, .int .i64 0]) ?_
        have bO1_t98 := (BoxAt.ext hX17 bO1_0)
        have bO1_t99 := (BoxAt.ext hX17 bO1_1)
        have bO1_t100 := (BoxAt.ext hX17 bO1_2)
        have bO1_t101 := (BoxAt.ext hX17 bO1_3)
        have bO1_t102 := (BoxAt.ext hX17 bO1_4)
        have bO1_t103 := (BoxAt.ext hX17 bO1_5)
        have bO1_t104 := (BoxAt.ext hX17 bO1_6)
        have bO5_t105 := (BoxAt.ext hX17 bO5_0)
        have bO5_t106 := (BoxAt.ext hX17 bO5_1)
        have bO9_t107 := (BoxAt.ext hX17 bO9_0)
        have bO13_t108 := (BoxAt.ext hX17 bO13_0)
        have bO13_t109 := (BoxAt.ext hX17 bO13_1)
        refine pP (sn_set2 (O := O13) (j := 0) (v := .int .i64 0) (v' := .int .i64 0) (ex_store (p := .pointer (some ⟨O13, 0, none⟩)) (v := .agg #[.int .i64 0, .int .i64 0]) rfl (by kernel_rfl) (by kernel_rfl) (st26 bO13_t108.1 bO13_t108.2 bO13_t109.1 bO13_t109.2)) bO13_t108 bO13_t109 ?_)
        intro X97 ho hv0 hv1 hk; replace hE := ho.ext hE (T (T hs3 (T hs7 hs11)) (Nat.le_of_eq hzO13))
        have q9 := fun (j : Nat) (v : Value) (h : BoxAt _ O1 j v) => ho.box (Nat.ne_of_gt (Nat.lt_of_lt_of_le lt4 (T (T hs7 hs11) (Nat.le_of_eq hzO13)))) h
        replace bO1_t98 := q9 _ _ bO1_t98; replace bO1_t99 := q9 _ _ bO1_t99; replace bO1_t100 := q9 _ _ bO1_t100; replace bO1_t101 := q9 _ _ bO1_t101; replace bO1_t102 := q9 _ _ bO1_t102; replace bO1_t103 := q9 _ _ bO1_t103; replace bO1_t104 := q9 _ _ bO1_t104; clear q9
        have q9 := fun (j : Nat) (v : Value) (h : BoxAt _ O5 j v) => ho.box (Nat.ne_of_gt (Nat.lt_of_lt_of_le lt8 (T hs11 (Nat.le_of_eq hzO13)))) h
        replace bO5_t105 := q9 _ _ bO5_t105; replace bO5_t106 := q9 _ _ bO5_t106; clear q9; replace bO9_t107 := ho.box (Nat.ne_of_gt (Nat.lt_of_lt_of_le lt12 (Nat.le_of_eq hzO13))) bO9_t107; have hs110 : w19.heap.size ≤ X97.heap.size := Nat.le_of_eq ho.size.symm; clear ho hk bO13_t108 bO13_t109; have bO13_t108 := hv0; clear hv0; have bO13_t109 := hv1; clear hv1; refine pT (.int .i64 0) ?_; refine pT (.bool false) ?_; refine pT (.int .i64 80) ?_; refine pl_nil ?_; refine qw_then ?_
        refine cw_ret ?_
        refine qw_then_ret ?_
        refine qw_ret [.agg #[.int .i64 0, .int .i64 0], .int .i64 0, .bool false, .int .i64 80] rfl ⟨⟨_, by kernel_rfl, res_ld (ld26 (bO13_t108.1) (bO13_t109.1))⟩, (by kernel_rfl), (by kernel_rfl), (by kernel_rfl), trivial⟩ ?_
        exact ⟨rfl, hE⟩
       ·
        refine pU (.bool false) (ev_ndec (show _ = Result.ok (Next.value (Value.bool (decide ((mi : Int) > (60 : Int))))) _ from by kernel_rfl) (hc96)) ?_
        refine pT (.bool false) ?_; refine pT (.bool false) ?_; refine pT (.int .i64 wd) ?_
        by_cases hc111 : (wd : Int) < (0 : Int)
        ·
         refine pU (.bool true) (ev_dec (show _ = Result.ok (Next.value (Value.bool (decide ((wd : Int) < (0 : Int))))) _ from by kernel_rfl) (hc111)) ?_
         refine pT (.bool true) ?_; refine pT (.bool true) ?_; refine pK ?_; refine pK ?_; refine pT (.bool true) ?_; refine pT (.bool true) ?_; refine pK ?_; refine pK ?_; refine pK ?_; refine pT (.bool true) ?_; refine pl_nil ?_; refine qw_then ?_; refine cC7 2 3 5 6 9 10 66 (fun L => ?_)
         refine cw_t (by kernel_rfl) ?_
         refine cw_seq ?_; refine cw_plain ?_; refine pT (.agg #[.int .i64 0, .int .i64 0]) ?_
         have bO1_t113 := (BoxAt.ext hX17 bO1_0)
         have bO1_t114 := (BoxAt.ext hX17 bO1_1)
         have bO1_t115 := (BoxAt.ext hX17 bO1_2)
         have bO1_t116 := (BoxAt.ext hX17 bO1_3)
         have bO1_t117 := (BoxAt.ext hX17 bO1_4)
         have bO1_t118 := (BoxAt.ext hX17 bO1_5)
         have bO1_t119 := (BoxAt.ext hX17 bO1_6)
         have bO5_t120 := (BoxAt.ext hX17 bO5_0)
         have bO5_t121 := (BoxAt.ext hX17 bO5_1)
         have bO9_t122 := (BoxAt.ext hX17 bO9_0)
         have bO13_t123 := (BoxAt.ext hX17 bO13_0)
         have bO13_t124 := (BoxAt.ext hX17 bO13_1)
         refine pP (sn_set2 (O := O13) (j := 0) (v := .int .i64 0) (v' := .int .i64 0) (ex_store (p := .pointer (some ⟨O13, 0, none⟩)) (v := .agg #[.int .i64 0, .int .i64 0]) rfl (by kernel_rfl) (by kernel_rfl) (st26 bO13_t123.1 bO13_t123.2 bO13_t124.1 bO13_t124.2)) bO13_t123 bO13_t124 ?_)
         intro X112 ho hv0 hv1 hk; replace hE := ho.ext hE (T (T hs3 (T hs7 hs11)) (Nat.le_of_eq hzO13))
         have q9 := fun (j : Nat) (v : Value) (h : BoxAt _ O1 j v) => ho.box (Nat.ne_of_gt (Nat.lt_of_lt_of_le lt4 (T (T hs7 hs11) (Nat.le_of_eq hzO13)))) h
         replace bO1_t113 := q9 _ _ bO1_t113; replace bO1_t114 := q9 _ _ bO1_t114; replace bO1_t115 := q9 _ _ bO1_t115; replace bO1_t116 := q9 _ _ bO1_t116; replace bO1_t117 := q9 _ _ bO1_t117; replace bO1_t118 := q9 _ _ bO1_t118; replace bO1_t119 := q9 _ _ bO1_t119; clear q9
         have q9 := fun (j : Nat) (v : Value) (h : BoxAt _ O5 j v) => ho.box (Nat.ne_of_gt (Nat.lt_of_lt_of_le lt8 (T hs11 (Nat.le_of_eq hzO13)))) h
         replace bO5_t120 := q9 _ _ bO5_t120; replace bO5_t121 := q9 _ _ bO5_t121; clear q9; replace bO9_t122 := ho.box (Nat.ne_of_gt (Nat.lt_of_lt_of_le lt12 (Nat.le_of_eq hzO13))) bO9_t122; have hs125 : w19.heap.size ≤ X112.heap.size := Nat.le_of_eq ho.size.symm; clear ho hk bO13_t123 bO13_t124; have bO13_t123 := hv0; clear hv0; have bO13_t124 := hv1; clear hv1; refine pT (.int .i64 0) ?_; refine pT (.bool false) ?_; refine pT (.int .i64 80) ?_; refine pl_nil ?_; refine qw_then ?_
         refine cw_ret ?_
         refine qw_then_ret ?_
         refine qw_ret [.agg #[.int .i64 0, .int .i64 0], .int .i64 0, .bool false, .int .i64 80] rfl ⟨⟨_, by kernel_rfl, res_ld (ld26 (bO13_t123.1) (bO13_t124.1))⟩, (by kernel_rfl), (by kernel_rfl), (by kernel_rfl), trivial⟩ ?_
         exact ⟨rfl, hE⟩
        ·
         refine pU (.bool false) (ev_ndec (show _ = Result.ok (Next.value (Value.bool (decide ((wd : Int) < (0 : Int))))) _ from by kernel_rfl) (hc111)) ?_
         refine pT (.bool false) ?_; refine pT (.bool false) ?_; refine pT (.int .i64 wd) ?_
         by_cases hc126 : (wd : Int) > (4 : Int)
         ·
          refine pU (.bool true) (ev_dec (show _ = Result.ok (Next.value (Value.bool (decide ((wd : Int) > (4 : Int))))) _ from by kernel_rfl) (hc126)) ?_
          refine pT (.bool true) ?_; refine pT (.bool true) ?_; refine pK ?_; refine pK ?_; refine pK ?_; refine pT (.bool true) ?_; refine pl_nil ?_; refine qw_then ?_; refine cC7 2 3 5 6 9 10 66 (fun L => ?_)
          refine cw_t (by kernel_rfl) ?_
          refine cw_seq ?_; refine cw_plain ?_; refine pT (.agg #[.int .i64 0, .int .i64 0]) ?_
          have bO1_t128 := (BoxAt.ext hX17 bO1_0)
          have bO1_t129 := (BoxAt.ext hX17 bO1_1)
          have bO1_t130 := (BoxAt.ext hX17 bO1_2)
          have bO1_t131 := (BoxAt.ext hX17 bO1_3)
          have bO1_t132 := (BoxAt.ext hX17 bO1_4)
          have bO1_t133 := (BoxAt.ext hX17 bO1_5)
          have bO1_t134 := (BoxAt.ext hX17 bO1_6)
          have bO5_t135 := (BoxAt.ext hX17 bO5_0)
          have bO5_t136 := (BoxAt.ext hX17 bO5_1)
          have bO9_t137 := (BoxAt.ext hX17 bO9_0)
          have bO13_t138 := (BoxAt.ext hX17 bO13_0)
          have bO13_t139 := (BoxAt.ext hX17 bO13_1)
          refine pP (sn_set2 (O := O13) (j := 0) (v := .int .i64 0) (v' := .int .i64 0) (ex_store (p := .pointer (some ⟨O13, 0, none⟩)) (v := .agg #[.int .i64 0, .int .i64 0]) rfl (by kernel_rfl) (by kernel_rfl) (st26 bO13_t138.1 bO13_t138.2 bO13_t139.1 bO13_t139.2)) bO13_t138 bO13_t139 ?_)
          intro X127 ho hv0 hv1 hk; replace hE := ho.ext hE (T (T hs3 (T hs7 hs11)) (Nat.le_of_eq hzO13))
          have q9 := fun (j : Nat) (v : Value) (h : BoxAt _ O1 j v) => ho.box (Nat.ne_of_gt (Nat.lt_of_lt_of_le lt4 (T (T hs7 hs11) (Nat.le_of_eq hzO13)))) h
          replace bO1_t128 := q9 _ _ bO1_t128; replace bO1_t129 := q9 _ _ bO1_t129; replace bO1_t130 := q9 _ _ bO1_t130; replace bO1_t131 := q9 _ _ bO1_t131; replace bO1_t132 := q9 _ _ bO1_t132; replace bO1_t133 := q9 _ _ bO1_t133; replace bO1_t134 := q9 _ _ bO1_t134; clear q9
          have q9 := fun (j : Nat) (v : Value) (h : BoxAt _ O5 j v) => ho.box (Nat.ne_of_gt (Nat.lt_of_lt_of_le lt8 (T hs11 (Nat.le_of_eq hzO13)))) h
          replace bO5_t135 := q9 _ _ bO5_t135; replace bO5_t136 := q9 _ _ bO5_t136; clear q9; replace bO9_t137 := ho.box (Nat.ne_of_gt (Nat.lt_of_lt_of_le lt12 (Nat.le_of_eq hzO13))) bO9_t137; have hs140 : w19.heap.size ≤ X127.heap.size := Nat.le_of_eq ho.size.symm; clear ho hk bO13_t138 bO13_t139; have bO13_t138 := hv0; clear hv0; have bO13_t139 := hv1; clear hv1; refine pT (.int .i64 0) ?_; refine pT (.bool false) ?_; refine pT (.int .i64 80) ?_; refine pl_nil ?_; refine qw_then ?_
          refine cw_ret ?_
          refine qw_then_ret ?_
          refine qw_ret [.agg #[.int .i64 0, .int .i64 0], .int .i64 0, .bool false, .int .i64 80] rfl ⟨⟨_, by kernel_rfl, res_ld (ld26 (bO13_t138.1) (bO13_t139.1))⟩, (by kernel_rfl), (by kernel_rfl), (by kernel_rfl), trivial⟩ ?_
          exact ⟨rfl, hE⟩
         ·
          refine pU (.bool false) (ev_ndec (show _ = Result.ok (Next.value (Value.bool (decide ((wd : Int) > (4 : Int))))) _ from by kernel_rfl) (hc126)) ?_
          refine pT (.bool false) ?_; refine pT (.bool false) ?_
          refine pU (.agg #[.slice (some ⟨bb, ob, none⟩) 24 c]) (ex_load rfl (by kernel_rfl) (ld31 ((BoxAt.ext hX17 bO9_0).1))) ?_
          refine pS (sn_call (f := 60) (args := #[.agg #[.slice (some ⟨bb, ob, none⟩) 24 c]]) (by kernel_rfl) ((rValid_c _ _ hA.aa (e1.trans hE)).mono ?_))
          rintro e w141 ⟨rfl, hb⟩
          replace hE := hE.trans hb; replace hX17 := hX17.trans hb; have hs142 := hb.size; clear hb
          refine ⟨_, rfl, ?_⟩
          refine pT (.bool false) ?_; refine pT (.bool false) ?_; refine pl_nil ?_; refine qw_then ?_; refine cC7 2 3 5 6 9 10 66 (fun L => ?_)
          refine cw_f (by kernel_rfl) ?_
          refine cw_skip ?_
          refine qw_then ?_; refine cw_seq ?_
          exfalso; simp [Swath.spB, Globe.inB, hb18] at hno; omega
 ·
  refine pS (sn_call (f := 58) (args := #[.agg #[.int .i64 o.p, .int .i64 o.f, .int .i64 o.lo, .int .i64 o.hi, .int .i64 o.nd, .int .i64 o.tn, .int .i64 o.sl]]) (by kernel_rfl) ((rOk_r (r := false) _ (hb18)).mono ?_))
  rintro e w143 ⟨rfl, hb⟩
  replace hE := hE.trans hb; replace hX17 := hX17.trans hb; have hs144 := hb.size; clear hb
  refine ⟨_, rfl, ?_⟩
  refine pT (.bool true) ?_; refine pT (.bool true) ?_; refine pK ?_; refine pK ?_; refine pK ?_; refine pT (.bool true) ?_; refine pT (.bool true) ?_; refine pK ?_; refine pK ?_; refine pK ?_; refine pK ?_; refine pK ?_; refine pT (.bool true) ?_; refine pT (.bool true) ?_; refine pK ?_; refine pK ?_; refine pK ?_; refine pT (.bool true) ?_; refine pT (.bool true) ?_; refine pK ?_; refine pK ?_; refine pK ?_; refine pK ?_; refine pK ?_; refine pK ?_; refine pT (.bool true) ?_; refine pT (.bool true) ?_; refine pK ?_; refine pK ?_; refine pT (.bool true) ?_; refine pT (.bool true) ?_; refine pK ?_; refine pK ?_; refine pT (.bool true) ?_; refine pT (.bool true) ?_; refine pK ?_; refine pK ?_; refine pT (.bool true) ?_; refine pT (.bool true) ?_; refine pK ?_; refine pK ?_; refine pT (.bool true) ?_; refine pT (.bool true) ?_; refine pK ?_; refine pK ?_; refine pK ?_; refine pT (.bool true) ?_; refine pl_nil ?_; refine qw_then ?_; refine cC7 2 3 5 6 9 10 66 (fun L => ?_)
  refine cw_t (by kernel_rfl) ?_
  refine cw_seq ?_; refine cw_plain ?_; refine pT (.agg #[.int .i64 0, .int .i64 0]) ?_
  have bO1_t146 := (BoxAt.ext hX17 bO1_0)
  have bO1_t147 := (BoxAt.ext hX17 bO1_1)
  have bO1_t148 := (BoxAt.ext hX17 bO1_2)
  have bO1_t149 := (BoxAt.ext hX17 bO1_3)
  have bO1_t150 := (BoxAt.ext hX17 bO1_4)
  have bO1_t151 := (BoxAt.ext hX17 bO1_5)
  have bO1_t152 := (BoxAt.ext hX17 bO1_6)
  have bO5_t153 := (BoxAt.ext hX17 bO5_0)
  have bO5_t154 := (BoxAt.ext hX17 bO5_1)
  have bO9_t155 := (BoxAt.ext hX17 bO9_0)
  have bO13_t156 := (BoxAt.ext hX17 bO13_0)
  have bO13_t157 := (BoxAt.ext hX17 bO13_1)
  refine pP (sn_set2 (O := O13) (j := 0) (v := .int .i64 0) (v' := .int .i64 0) (ex_store (p := .pointer (some ⟨O13, 0, none⟩)) (v := .agg #[.int .i64 0, .int .i64 0]) rfl (by kernel_rfl) (by kernel_rfl) (st26 bO13_t156.1 bO13_t156.2 bO13_t157.1 bO13_t157.2)) bO13_t156 bO13_t157 ?_)
  intro X145 ho hv0 hv1 hk; replace hE := ho.ext hE (T (T hs3 (T hs7 hs11)) (Nat.le_of_eq hzO13))
  have q9 := fun (j : Nat) (v : Value) (h : BoxAt _ O1 j v) => ho.box (Nat.ne_of_gt (Nat.lt_of_lt_of_le lt4 (T (T hs7 hs11) (Nat.le_of_eq hzO13)))) h
  replace bO1_t146 := q9 _ _ bO1_t146; replace bO1_t147 := q9 _ _ bO1_t147; replace bO1_t148 := q9 _ _ bO1_t148; replace bO1_t149 := q9 _ _ bO1_t149; replace bO1_t150 := q9 _ _ bO1_t150; replace bO1_t151 := q9 _ _ bO1_t151; replace bO1_t152 := q9 _ _ bO1_t152; clear q9
  have q9 := fun (j : Nat) (v : Value) (h : BoxAt _ O5 j v) => ho.box (Nat.ne_of_gt (Nat.lt_of_lt_of_le lt8 (T hs11 (Nat.le_of_eq hzO13)))) h
  replace bO5_t153 := q9 _ _ bO5_t153; replace bO5_t154 := q9 _ _ bO5_t154; clear q9; replace bO9_t155 := ho.box (Nat.ne_of_gt (Nat.lt_of_lt_of_le lt12 (Nat.le_of_eq hzO13))) bO9_t155; have hs158 : w143.heap.size ≤ X145.heap.size := Nat.le_of_eq ho.size.symm; clear ho hk bO13_t156 bO13_t157; have bO13_t156 := hv0; clear hv0; have bO13_t157 := hv1; clear hv1; refine pT (.int .i64 0) ?_; refine pT (.bool false) ?_; refine pT (.int .i64 80) ?_; refine pl_nil ?_; refine qw_then ?_
  refine cw_ret ?_
  refine qw_then_ret ?_
  refine qw_ret [.agg #[.int .i64 0, .int .i64 0], .int .i64 0, .bool false, .int .i64 80] rfl ⟨⟨_, by kernel_rfl, res_ld (ld26 (bO13_t156.1) (bO13_t157.1))⟩, (by kernel_rfl), (by kernel_rfl), (by kernel_rfl), trivial⟩ ?_
  exact ⟨rfl, hE⟩

end Go.Proofs.Ytdjjkhefdalokaa

/- The heights of the sun, as the reference finds them. -/
namespace Go.Proofs.Ytdjjkhefdalokaa
namespace Swath
def rG (f : Nat → Int) (z : Int × Int) : Nat → Int × Int
 | 0 => z
 | i + 1 => (min (rG f z i).1 (f i), max (rG f z i).2 (f i))
def rF (F : Nat → Nat → Int) (n : Nat) : Nat → Int × Int
 | 0 => (1000, -1000)
 | j + 1 => rG (F j) (rF F n j) n
theorem rG_bd (f : Nat → Int) (z : Int × Int) : ∀ n, (rG f z n).1 ≤ z.1 ∧ z.2 ≤ (rG f z n).2 ∧ ∀ i, i < n → (rG f z n).1 ≤ f i ∧ f i ≤ (rG f z n).2
  | 0 => ⟨Int.le_refl _, Int.le_refl _, fun _ h => absurd h (Nat.not_lt_zero _)⟩
  | n + 1 => by
    obtain ⟨h1, h2, h3⟩ := rG_bd f z n
    rw [show rG f z (n + 1) = (min (rG f z n).1 (f n), max (rG f z n).2 (f n)) from rfl]
    simp only []
    refine ⟨by omega, by omega, fun i hi => ?_⟩
    rcases Nat.lt_or_ge i n with q | q
    · have := h3 i q; omega
    · obtain rfl : i = n := by omega
      omega
theorem rG_hit (f : Nat → Int) (z : Int × Int) : ∀ n, ((rG f z n).1 = z.1 ∨ ∃ i, i < n ∧ f i = (rG f z n).1) ∧ ((rG f z n).2 = z.2 ∨ ∃ i, i < n ∧ f i = (rG f z n).2)
  | 0 => ⟨.inl rfl, .inl rfl⟩
  | n + 1 => by
    obtain ⟨h1, h2⟩ := rG_hit f z n
    rw [show rG f z (n + 1) = (min (rG f z n).1 (f n), max (rG f z n).2 (f n)) from rfl]
    simp only []
    constructor
    · rcases Int.le_total (rG f z n).1 (f n) with q | q
      · rw [Int.min_eq_left q]
        rcases h1 with h1 | ⟨i, hi, h1⟩
        · exact .inl h1
        · exact .inr ⟨i, by omega, h1⟩
      · rw [Int.min_eq_right q]; exact .inr ⟨n, by omega, rfl⟩
    · rcases Int.le_total (f n) (rG f z n).2 with q | q
      · rw [Int.max_eq_left q]
        rcases h2 with h2 | ⟨i, hi, h2⟩
        · exact .inl h2
        · exact .inr ⟨i, by omega, h2⟩
      · rw [Int.max_eq_right q]; exact .inr ⟨n, by omega, rfl⟩
theorem rF_bd (F : Nat → Nat → Int) (n : Nat) : ∀ m j i, j < m → i < n → (rF F n m).1 ≤ F j i ∧ F j i ≤ (rF F n m).2
  | m + 1, j, i, hj, hi => by
    obtain ⟨h1, h2, h3⟩ := rG_bd (F m) (rF F n m) n
    rw [show rF F n (m + 1) = rG (F m) (rF F n m) n from rfl]
    rcases Nat.lt_or_ge j m with q | q
    · have := rF_bd F n m j i q hi; omega
    · obtain rfl : j = m := by omega
      exact h3 i hi
theorem rF_hit (F : Nat → Nat → Int) (n : Nat) : ∀ m, ((rF F n m).1 = 1000 ∨ ∃ j i, j < m ∧ i < n ∧ F j i = (rF F n m).1) ∧ ((rF F n m).2 = -1000 ∨ ∃ j i, j < m ∧ i < n ∧ F j i = (rF F n m).2)
  | 0 => ⟨.inl rfl, .inl rfl⟩
  | m + 1 => by
    obtain ⟨h1, h2⟩ := rF_hit F n m
    obtain ⟨h3, h4⟩ := rG_hit (F m) (rF F n m) n
    rw [show rF F n (m + 1) = rG (F m) (rF F n m) n from rfl]
    constructor
    · rcases h3 with h3 | ⟨i, hi, h3⟩
      · rcases h1 with h1 | ⟨j, i, hj, hi, h1⟩
        · exact .inl (h3.trans h1)
        · exact .inr ⟨j, i, by omega, hi, h1.trans h3.symm⟩
      · exact .inr ⟨m, i, by omega, hi, h3⟩
    · rcases h4 with h4 | ⟨i, hi, h4⟩
      · rcases h2 with h2 | ⟨j, i, hj, hi, h2⟩
        · exact .inl (h4.trans h2)
        · exact .inr ⟨j, i, by omega, hi, h2.trans h4.symm⟩
      · exact .inr ⟨m, i, by omega, hi, h4⟩
theorem rF_suns {o : Orb} {s : Int × Int} {lk : Int} (h : shB o s lk = true) : rF (hgtJ o s lk) (mins s) (lates o) = suns o s lk := by
  obtain ⟨hok, ⟨s0, s1, s2, s3⟩, -, -⟩ := shB_t.1 h
  have hh := fun d i => hgt_bd hok (s := s) s0 lk d i
  have h0 := lates_pos hok
  have h1 : 0 < mins s := by unfold mins; omega
  obtain ⟨hl, hh2⟩ := rF_hit (hgtJ o s lk) (mins s) (lates o)
  have hb := rF_bd (hgtJ o s lk) (mins s) (lates o)
  obtain ⟨⟨j, hj, h2⟩, jj, hjj, h4⟩ := sunF_hit (A := sunJ o s lk) (lates o) h0
  obtain ⟨⟨i, hi, h3⟩, -⟩ := mm_hit o s lk (-o.sl + ((j : Nat) : Int)) (hh _) (mins s) h1
  obtain ⟨-, ii, hii, h5⟩ := mm_hit o s lk (-o.sl + ((jj : Nat) : Int)) (hh _) (mins s) h1
  have e1 : hgtJ o s lk j i = (suns o s lk).1 := h3.trans h2
  have e2 : hgtJ o s lk jj ii = (suns o s lk).2 := h5.trans h4
  have b1 := (hb j i hj hi).1
  have b2 := (hb jj ii hjj hii).2
  have c1 : -90 ≤ hgtJ o s lk j i ∧ hgtJ o s lk j i ≤ 90 := hh _ _
  have c2 : -90 ≤ hgtJ o s lk jj ii ∧ hgtJ o s lk jj ii ≤ 90 := hh _ _
  refine Prod.ext ?_ ?_
  · rcases hl with hl | ⟨k, q, hk, hq, hl⟩
    · omega
    · have := (suns_bd o s lk hk hq).1; omega
  · rcases hh2 with hl | ⟨k, q, hk, hq, hl⟩
    · omega
    · have := (suns_bd o s lk hk hq).2; omega
end Swath
end Go.Proofs.Ytdjjkhefdalokaa

/- Contracts of the reference's functions on the sun, and of the small helpers. -/
namespace Go.Proofs.Ytdjjkhefdalokaa
open Go.RowKit

theorem rminute_c (t : Int) (w : World) : Calls Try.prog 101 #[.int .i64 t] w fun e w' => e = .returned (.bool (Sun.minB t)) ∧ w = w' := by
 go_enter Try.func101, Try.ntmps101
 go_wp2
 all_goals (go_ret; refine ⟨ret_bool ?_, rfl⟩; first | (rw [Sun.minB_f.2 (by omega)]; done) | (simp [Sun.minB]; omega))

theorem down_c (n : Int) (w : World) (h0 : -1000000000 ≤ n) (h1 : n ≤ 1000000000) : Calls Try.prog 102 #[.int .i64 n] w fun e w' => e = .returned (.int .i64 (n / 3)) ∧ w = w' := by
  by_cases h : n < 0
  · go_enter Try.func102, Try.ntmps102
    go_wp2
    all_goals (go_ret; exact ⟨ret_int (by omega), rfl⟩)
  · go_enter Try.func102, Try.ntmps102
    go_wp2
    all_goals (go_ret; exact ⟨rfl, rfl⟩)

theorem raway_c (a b : Int) (w : World) (h1 : -1000000000 ≤ a) (h2 : a ≤ 1000000000) (h3 : -1000000000 ≤ b) (h4 : b ≤ 1000000000) :
  Calls Try.prog 86 #[.int .i64 a, .int .i64 b] w fun e w' => e = .returned (.int .i64 (Sun.away a b)) ∧ w = w' := by
 go_enter Try.func86, Try.ntmps86
 go_wp2
 all_goals (go_ret; refine ⟨ret_int ?_, rfl⟩; unfold Sun.away; omega)

theorem rNoon_yes (t : Int) (w : World) (h : Sun.minB t = true) : Calls Try.prog 83 #[.int .i64 t] w fun e w' => e = .returned (.tuple #[.int .i64 (Sun.noon t), .int .i64 0]) ∧ w = w' := by
 obtain ⟨h0, h1⟩ := Sun.minB_t.1 h
 go_enter Try.func83, Try.ntmps83
 go_wp2_with (first | (go_at_call 101; refine (rminute_c _ _).mono ?_; rintro e w' ⟨rfl, rfl⟩) | (go_at_call 102; refine (down_c _ _ (by omega) (by omega)).mono ?_; rintro e w' ⟨rfl, rfl⟩))
 go_ret2
 exact ⟨rfl, rfl⟩
theorem rSeason_yes (t : Int) (w : World) (h : Sun.minB t = true) : Calls Try.prog 84 #[.int .i64 t] w fun e w' => e = .returned (.tuple #[.int .i64 (Sun.season t), .int .i64 0]) ∧ w = w' := by
 obtain ⟨h0, h1⟩ := Sun.minB_t.1 h
 go_enter Try.func84, Try.ntmps84
 go_wp2_with (first | (go_at_call 101; refine (rminute_c _ _).mono ?_; rintro e w' ⟨rfl, rfl⟩) | (go_at_call 102; refine (down_c _ _ (by omega) (by omega)).mono ?_; rintro e w' ⟨rfl, rfl⟩))
 all_goals (go_ret2; refine ⟨ret2_int ?_, rfl⟩; first | (rw [Sun.season_a (by omega)]; omega) | (rw [Sun.season_b (by omega) (by omega)]; omega) | (rw [Sun.season_c (by omega)]; omega))
theorem rHeight_yes (x y t : Int) (w : World) (h : Sun.minB t = true) (hv : Globe.vcB x y = true) :
  Calls Try.prog 55 #[.agg #[.int .i64 x, .int .i64 y], .int .i64 t] w fun e w' => e = .returned (.tuple #[.int .i64 (Sun.height x y t), .int .i64 0]) ∧ Ext w w' := by
 obtain ⟨h0, h1⟩ := Sun.minB_t.1 h
 obtain ⟨h2, h3, h4, h5⟩ := Globe.vcB_t.1 hv
 have hn := Sun.noon_bd h0
 have hs := Sun.season_bd t
 have ha := @Sun.away_bd (1000 * x + 500) (Sun.noon t) 48000 (by omega) (by omega) (by omega) (by omega)
 have hy := @Sun.away_bd (1000 * y + 500) (Sun.season t) 24000 (by omega) (by omega) (by omega) (by omega)
 go_enter Try.func55, Try.ntmps55
 go_wp2_with (first | (go_at_call 85; refine (rValidCell_c _ _ _).mono ?_; rintro e w1 ⟨rfl, hb⟩; have hc := hb.cellE; have hf := hb.frozenE; have hz := hb.size; have ha := alloc_keeps w1; (try simp only [World.size_alloc] at hc hf hz); (try simp only [World.size_setCell] at hc hf hz); (try simp only [World.size_drew] at hc hf hz)) | (go_at_call 83; refine (rNoon_yes _ _ h).mono ?_; rintro e w' ⟨rfl, rfl⟩) | (go_at_call 84; refine (rSeason_yes _ _ h).mono ?_; rintro e w' ⟨rfl, rfl⟩) | (go_at_call 86; refine (raway_c _ _ _ (by omega) (by omega) (by omega) (by omega)).mono ?_; rintro e w' ⟨rfl, rfl⟩))
 all_goals (go_ret2; exact ⟨ret2_int (by unfold Sun.height Sun.ac Sun.ds; omega), by (repeat' (first | (with_reducible assumption) | (with_reducible exact Ext.refl _) | (with_reducible refine Ext.alloc ?_ _) | (with_reducible refine Ext.drew ?_) | (with_reducible refine Ext.drewN ?_ _) | (with_reducible refine Ext.setCell ?_ ?_ _) | (with_reducible refine Ext.trans ?_ (by assumption)) | go_size))⟩)
end Go.Proofs.Ytdjjkhefdalokaa

/- Contracts of the reference of chapter 8: Suns. -/
namespace Go.Proofs.Ytdjjkhefdalokaa
open Go.RowKit

set_option maxRecDepth 1000000 in
set_option maxHeartbeats 4000000 in
theorem rSuns_y {o : Orb} {s : Int × Int} {lk : Int} (w : World) (hv : Swath.shB o s lk = true) : Calls Try.prog 20 #[.agg #[.int .i64 o.p, .int .i64 o.f, .int .i64 o.lo, .int .i64 o.hi, .int .i64 o.nd, .int .i64 o.tn, .int .i64 o.sl], .agg #[.int .i64 s.1, .int .i64 s.2], .int .i64 lk] w fun e w' => e = .returned (.tuple #[.int .i64 (Swath.suns o s lk).1, .int .i64 (Swath.suns o s lk).2, .int .i64 0]) ∧ Ext w w' := by
 obtain ⟨hok, ⟨sp0, sp1, sp2, sp3⟩, hl0, hl1⟩ := Swath.shB_t.1 hv
 have hq0 := Orb.ok_t.1 hok
 have hN : Swath.lates o = (2 * o.sl + 1).toNat := rfl
 have hM : Swath.mins s = (s.2 - s.1).toNat := rfl
 refine calls_cw 57 [(2, .int .i64 lk), (1, .agg #[.int .i64 s.1, .int .i64 s.2]), (0, .agg #[.int .i64 o.p, .int .i64 o.f, .int .i64 o.lo, .int .i64 o.hi, .int .i64 o.nd, .int .i64 o.tn, .int .i64 o.sl])] Try.func20 rfl Try.ntmps20 (by kernel_rfl) (by kernel_rfl) (fun L => ?_)
 have hE : Ext w w := Ext.refl w
 refine cw_seq ?_; refine cw_plain ?_
 refine pS (sn_new (us := #[.int .i64 o.p, .int .i64 o.f, .int .i64 o.lo, .int .i64 o.hi, .int .i64 o.nd, .int .i64 o.tn, .int .i64 o.sl]) (t := 24) (by kernel_rfl) ?_)
 intro O1 X2 hzO1 hyO1 hb hbx; have ⟨bO1_0, bO1_1, bO1_2, bO1_3, bO1_4, bO1_5, bO1_6⟩ := bx7 hbx; clear hbx
 replace hE := hE.trans hb; have hs3 := hb.size; clear hb; have lt4 := bO1_0.lt
 refine pS (sn_new (us := #[.int .i64 s.1, .int .i64 s.2]) (t := 26) (by kernel_rfl) ?_)
 intro O5 X6 hzO5 hyO5 hb hbx; have ⟨bO5_0, bO5_1⟩ := bx2 hbx; clear hbx
 replace hE := hE.trans hb; replace bO1_0 := BoxAt.ext hb bO1_0; replace bO1_1 := BoxAt.ext hb bO1_1; replace bO1_2 := BoxAt.ext hb bO1_2; replace bO1_3 := BoxAt.ext hb bO1_3; replace bO1_4 := BoxAt.ext hb bO1_4; replace bO1_5 := BoxAt.ext hb bO1_5; replace bO1_6 := BoxAt.ext hb bO1_6; have hs7 := hb.size; clear hb; have lt8 := bO5_0.lt; refine pT (.int .i64 0) ?_; refine pT (.int .i64 0) ?_; refine pT (.int .i64 0) ?_; refine pl_nil ?_; refine qw_then ?_; refine cw_seq ?_; refine cw_seq ?_; have hX9 : Ext X6 X6 := Ext.refl _; refine cw_plain ?_
 refine pU (.agg #[.int .i64 o.p, .int .i64 o.f, .int .i64 o.lo, .int .i64 o.hi, .int .i64 o.nd, .int .i64 o.tn, .int .i64 o.sl]) (ex_load rfl (by kernel_rfl) (ld24 (bO1_0.1) (bO1_1.1) (bO1_2.1) (bO1_3.1) (bO1_4.1) (bO1_5.1) (bO1_6.1))) ?_
 refine pU (.agg #[.int .i64 s.1, .int .i64 s.2]) (ex_load rfl (by kernel_rfl) (ld26 (bO5_0.1) (bO5_1.1))) ?_
 refine pT (.int .i64 lk) ?_
 refine pS (sn_call (f := 23) (args := #[.agg #[.int .i64 o.p, .int .i64 o.f, .int .i64 o.lo, .int .i64 o.hi, .int .i64 o.nd, .int .i64 o.tn, .int .i64 o.sl], .agg #[.int .i64 s.1, .int .i64 s.2], .int .i64 lk]) (by kernel_rfl) ((rValid8_r (r := true) o s lk _ (hv)).mono ?_))
 rintro e w10 ⟨rfl, hb⟩
 replace hE := hE.trans hb; replace hX9 := hX9.trans hb; have hs11 := hb.size; clear hb
 refine ⟨_, rfl, ?_⟩
 refine pT (.bool false) ?_; refine pl_nil ?_; refine qw_then ?_
 refine cw_f (by kernel_rfl) ?_
 refine cw_skip ?_
 refine qw_then ?_; refine cw_seq ?_; refine cw_plain ?_; refine pT (.int .i64 1000) ?_; refine pl_nil ?_; refine qw_then ?_; refine cw_seq ?_; refine cw_plain ?_; refine pT (.int .i64 (-1000 : Int)) ?_; refine pl_nil ?_; refine qw_then ?_; refine cC5 2 3 4 9 10 (fun L => ?_); refine cw_seq ?_; refine cw_seq ?_; refine cw_plain ?_; refine pT (.pointer (some ⟨O1, 6, none⟩)) ?_
 refine pU (.int .i64 o.sl) (ex_load rfl (by kernel_rfl) (ld3 ((BoxAt.ext hX9 bO1_6).1))) ?_
 refine pU (.int .i64 (-o.sl : Int)) (ev_int (ev_wrap (a := 0 - o.sl) (by kernel_rfl) (by omega) (by omega)) (by omega)) ?_
 refine pU (.int .i64 (-o.sl + ((0 : Nat) : Int) : Int)) (ev_int (show _ = Result.ok (Next.value (Value.int .i64 (-o.sl))) _ from by kernel_rfl) (by omega)) ?_
 refine pl_nil ?_; refine qw_then ?_
 refine cw_block ?_
 have hX12 : Ext w10 w10 := Ext.refl _
 refine cw_loop [2, 3, 4, 9, 10, 11] (fun ws' wr m => ∃ j : Nat, ws' = [(2, .int .i64 lk), (3, .pointer (some ⟨O1, 0, none⟩)), (4, .pointer (some ⟨O5, 0, none⟩)), (9, .int .i64 ((Swath.rF (Swath.hgtJ o s lk) (Swath.mins s) j).1 : Int)), (10, .int .i64 ((Swath.rF (Swath.hgtJ o s lk) (Swath.mins s) j).2 : Int)), (11, .int .i64 (-o.sl + ((j : Nat) : Int) : Int))] ∧ m = Swath.lates o - j ∧ w10.heap.size ≤ wr.heap.size ∧ Ext w wr ∧ Ext w10 wr ∧ j ≤ Swath.lates o) (ws0 := [(2, .int .i64 lk), (3, .pointer (some ⟨O1, 0, none⟩)), (4, .pointer (some ⟨O5, 0, none⟩)), (9, .int .i64 1000), (10, .int .i64 (-1000 : Int)), (11, .int .i64 (-o.sl + ((0 : Nat) : Int) : Int))]) (by kernel_rfl) _ ⟨0, rfl, rfl, Nat.le_refl _, hE, hX12, Nat.zero_le _⟩ ?_
 clear hE hX12
 rintro m15 L ws w14 ⟨j, rfl, rfl, hs13, hE, hX12, hj⟩
 by_cases hlt : j < Swath.lates o
 ·
  refine cw_seq ?_; refine cw_seq ?_; refine cw_plain ?_; refine pT (.int .i64 (-o.sl + ((j : Nat) : Int) : Int)) ?_; refine pT (.pointer (some ⟨O1, 6, none⟩)) ?_
  refine pU (.int .i64 o.sl) (ex_load rfl (by kernel_rfl) (ld3 ((BoxAt.ext (hX9.trans hX12) bO1_6).1))) ?_
  refine pU (.bool true) (ev_dec (show _ = Result.ok (Next.value (Value.bool (decide ((-o.sl + ((j : Nat) : Int) : Int) ≤ (o.sl : Int))))) _ from by kernel_rfl) (by omega)) ?_
  refine pl_nil ?_; refine qw_then ?_
  refine cw_t (by kernel_rfl) ?_
  refine cw_skip ?_
  refine qw_then ?_; refine cw_seq ?_
  refine cw_block ?_
  refine cw_seq ?_; have hlt9 := hlt; clear hlt; refine cw_plain ?_; refine pT (.pointer (some ⟨O5, 0, none⟩)) ?_
  refine pU (.int .i64 s.1) (ex_load rfl (by kernel_rfl) (ld3 ((BoxAt.ext (hX9.trans hX12) bO5_0).1))) ?_
  refine pU (.int .i64 (s.1 + ((0 : Nat) : Int) : Int)) (ev_int (show _ = Result.ok (Next.value (Value.int .i64 s.1)) _ from by kernel_rfl) (by omega)) ?_
  refine pl_nil ?_; refine qw_then ?_
  refine cw_block ?_
  have hX16 : Ext w14 w14 := Ext.refl _
  refine cw_loop [2, 3, 4, 9, 10, 11, 12] (fun ws' wr m => ∃ i : Nat, ws' = [(2, .int .i64 lk), (3, .pointer (some ⟨O1, 0, none⟩)), (4, .pointer (some ⟨O5, 0, none⟩)), (9, .int .i64 ((Swath.rG (Swath.hgtJ o s lk j) (Swath.rF (Swath.hgtJ o s lk) (Swath.mins s) j) i).1 : Int)), (10, .int .i64 ((Swath.rG (Swath.hgtJ o s lk j) (Swath.rF (Swath.hgtJ o s lk) (Swath.mins s) j) i).2 : Int)), (11, .int .i64 (-o.sl + ((j : Nat) : Int) : Int)), (12, .int .i64 (s.1 + ((i : Nat) : Int) : Int))] ∧ m = Swath.mins s - i ∧ w14.heap.size ≤ wr.heap.size ∧ Ext w wr ∧ Ext w14 wr ∧ i ≤ Swath.mins s) (ws0 := [(2, .int .i64 lk), (3, .pointer (some ⟨O1, 0, none⟩)), (4, .pointer (some ⟨O5, 0, none⟩)), (9, .int .i64 ((Swath.rF (Swath.hgtJ o s lk) (Swath.mins s) j).1 : Int)), (10, .int .i64 ((Swath.rF (Swath.hgtJ o s lk) (Swath.mins s) j).2 : Int)), (11, .int .i64 (-o.sl + ((j : Nat) : Int) : Int)), (12, .int .i64 (s.1 + ((0 : Nat) : Int) : Int))]) (by kernel_rfl) _ ⟨0, rfl, rfl, Nat.le_refl _, hE, hX16, Nat.zero_le _⟩ ?_
  clear hE hX16
  rintro m19 L ws w18 ⟨i, rfl, rfl, hs17, hE, hX16, hi⟩
  by_cases hlt : i < Swath.mins s
  ·
   have hmin : Sun.minB (s.1 + ((i : Nat) : Int)) = true := Sun.minB_t.2 ⟨by omega, by omega⟩
   have hsx := Swath.sx_lt o lk (s.1 + ((i : Nat) : Int) - (-o.sl + ((j : Nat) : Int)))
   have hcy := Orb.cy_lt hok (s.1 + ((i : Nat) : Int) - (-o.sl + ((j : Nat) : Int)))
   have hvc : Globe.vcB ((Swath.sx o lk (s.1 + ((i : Nat) : Int) - (-o.sl + ((j : Nat) : Int))) : Nat) : Int) ((Orb.cy o (s.1 + ((i : Nat) : Int) - (-o.sl + ((j : Nat) : Int))) : Nat) : Int) = true := Globe.vcB_t.2 ⟨by omega, by omega, by omega, by omega⟩
   refine cw_seq ?_; refine cw_seq ?_; refine cw_plain ?_; refine pT (.int .i64 (s.1 + ((i : Nat) : Int) : Int)) ?_; refine pT (.pointer (some ⟨O5, 1, none⟩)) ?_
   have hY20 := hX9.trans hX12
   refine pU (.int .i64 s.2) (ex_load rfl (by kernel_rfl) (ld3 ((BoxAt.ext (hY20.trans hX16) bO5_1).1))) ?_
   refine pU (.bool true) (ev_dec (show _ = Result.ok (Next.value (Value.bool (decide ((s.1 + ((i : Nat) : Int) : Int) < (s.2 : Int))))) _ from by kernel_rfl) (by omega)) ?_
   refine pl_nil ?_; refine qw_then ?_
   refine cw_t (by kernel_rfl) ?_
   refine cw_skip ?_
   refine qw_then ?_; refine cw_seq ?_
   refine cw_block ?_
   refine cw_seq ?_; refine cw_plain ?_
   refine pU (.agg #[.int .i64 o.p, .int .i64 o.f, .int .i64 o.lo, .int .i64 o.hi, .int .i64 o.nd, .int .i64 o.tn, .int .i64 o.sl]) (ex_load rfl (by kernel_rfl) (ld24 ((BoxAt.ext (hY20.trans hX16) bO1_0).1) ((BoxAt.ext (hY20.trans hX16) bO1_1).1) ((BoxAt.ext (hY20.trans hX16) bO1_2).1) ((BoxAt.ext (hY20.trans hX16) bO1_3).1) ((BoxAt.ext (hY20.trans hX16) bO1_4).1) ((BoxAt.ext (hY20.trans hX16) bO1_5).1) ((BoxAt.ext (hY20.trans hX16) bO1_6).1))) ?_
   refine pT (.int .i64 (s.1 + ((i : Nat) : Int) : Int)) ?_; refine pT (.int .i64 lk) ?_; refine pT (.int .i64 (-o.sl + ((j : Nat) : Int) : Int)) ?_
   refine pS (sn_call (f := 45) (args := #[.agg #[.int .i64 o.p, .int .i64 o.f, .int .i64 o.lo, .int .i64 o.hi, .int .i64 o.nd, .int .i64 o.tn, .int .i64 o.sl], .int .i64 (s.1 + ((i : Nat) : Int) : Int), .int .i64 lk, .int .i64 (-o.sl + ((j : Nat) : Int) : Int)]) (by kernel_rfl) ((rcell_c o (s.1 + ((i : Nat) : Int)) lk (-o.sl + ((j : Nat) : Int)) _ (by omega) (by omega) (by unfold Orb.atB; rw [show Globe.inB (s.1 + ((i : Nat) : Int)) 0 1000000 = true from Globe.inB_t.2 ⟨by omega, by omega⟩, show Globe.inB (-o.sl + ((j : Nat) : Int)) (-10) 10 = true from Globe.inB_t.2 ⟨by omega, by omega⟩, hok]; rfl)).mono ?_))
   rintro e w21 ⟨rfl, hb⟩
   replace hE := hE.trans hb; replace hX16 := hX16.trans hb; have hs22 := hb.size; clear hb
   refine ⟨_, rfl, ?_⟩
   refine pT (.int .i64 (s.1 + ((i : Nat) : Int) : Int)) ?_
   refine pS (sn_call (f := 55) (args := #[.agg #[.int .i64 (((Swath.sx o lk ((s.1 + ((i : Nat) : Int)) - (-o.sl + ((j : Nat) : Int))) : Nat) : Int) : Int), .int .i64 (((Orb.cy o ((s.1 + ((i : Nat) : Int)) - (-o.sl + ((j : Nat) : Int))) : Nat) : Int) : Int)], .int .i64 (s.1 + ((i : Nat) : Int) : Int)]) (by kernel_rfl) ((rHeight_yes _ _ _ _ hmin hvc).mono ?_))
   rintro e w23 ⟨rfl, hb⟩
   replace hE := hE.trans hb; replace hX16 := hX16.trans hb; have hs24 := hb.size; clear hb
   refine ⟨_, rfl, ?_⟩
   refine pT (.tuple #[.int .i64 (Swath.hgtJ o s lk j i : Int), .int .i64 0]) ?_; refine pT (.int .i64 (Swath.hgtJ o s lk j i : Int)) ?_; refine pT (.int .i64 0) ?_; refine pT (.int .i64 (Swath.hgtJ o s lk j i : Int)) ?_; refine pT (.int .i64 0) ?_; refine pl_nil ?_; refine qw_then ?_; refine cC9 2 3 4 9 10 11 12 13 14 (fun L => ?_); refine cw_seq ?_; refine cw_plain ?_; refine pT (.int .i64 0) ?_; refine pT (.bool true) ?_; refine pl_nil ?_; refine qw_then ?_
   refine cw_t (by kernel_rfl) ?_
   refine cw_seq ?_; refine cw_plain ?_; refine pT (.int .i64 ((Swath.rG (Swath.hgtJ o s lk j) (Swath.rF (Swath.hgtJ o s lk) (Swath.mins s) j) i).1 : Int)) ?_; refine pT (.int .i64 (Swath.hgtJ o s lk j i : Int)) ?_
   refine pU (.int .i64 (min ((Swath.rG (Swath.hgtJ o s lk j) (Swath.rF (Swath.hgtJ o s lk) (Swath.mins s) j) i).1 : Int) (Swath.hgtJ o s lk j i : Int) : Int)) (ev_int (show _ = Result.ok (Next.value (Value.int .i64 (if (Swath.hgtJ o s lk j i : Int) < ((Swath.rG (Swath.hgtJ o s lk j) (Swath.rF (Swath.hgtJ o s lk) (Swath.mins s) j) i).1 : Int) then (Swath.hgtJ o s lk j i : Int) else ((Swath.rG (Swath.hgtJ o s lk j) (Swath.rF (Swath.hgtJ o s lk) (Swath.mins s) j) i).1 : Int)))) _ from by kernel_rfl) (by split <;> omega)) ?_
   refine pT (.int .i64 (min ((Swath.rG (Swath.hgtJ o s lk j) (Swath.rF (Swath.hgtJ o s lk) (Swath.mins s) j) i).1 : Int) (Swath.hgtJ o s lk j i : Int) : Int)) ?_; refine pl_nil ?_; refine qw_then ?_; refine cw_plain ?_; refine pT (.int .i64 ((Swath.rG (Swath.hgtJ o s lk j) (Swath.rF (Swath.hgtJ o s lk) (Swath.mins s) j) i).2 : Int)) ?_; refine pT (.int .i64 (Swath.hgtJ o s lk j i : Int)) ?_
   refine pU (.int .i64 (max ((Swath.rG (Swath.hgtJ o s lk j) (Swath.rF (Swath.hgtJ o s lk) (Swath.mins s) j) i).2 : Int) (Swath.hgtJ o s lk j i : Int) : Int)) (ev_int (show _ = Result.ok (Next.value (Value.int .i64 (if ((Swath.rG (Swath.hgtJ o s lk j) (Swath.rF (Swath.hgtJ o s lk) (Swath.mins s) j) i).2 : Int) < (Swath.hgtJ o s lk j i : Int) then (Swath.hgtJ o s lk j i : Int) else ((Swath.rG (Swath.hgtJ o s lk j) (Swath.rF (Swath.hgtJ o s lk) (Swath.mins s) j) i).2 : Int)))) _ from by kernel_rfl) (by split <;> omega)) ?_
   refine pT (.int .i64 (max ((Swath.rG (Swath.hgtJ o s lk j) (Swath.rF (Swath.hgtJ o s lk) (Swath.mins s) j) i).2 : Int) (Swath.hgtJ o s lk j i : Int) : Int)) ?_; refine pl_nil ?_
   refine qw_block ?_
   refine qw_then ?_; refine cC7 2 3 4 9 10 11 12 (fun L => ?_); refine cw_plain ?_; refine pT (.int .i64 (s.1 + ((i : Nat) : Int) : Int)) ?_
   refine pU (.int .i64 (s.1 + ((i + 1 : Nat) : Int) : Int)) (ev_int (ev_wrap (a := s.1 + ((i : Nat) : Int) + 1) (by kernel_rfl) (by omega) (by omega)) (by omega)) ?_
   refine pT (.int .i64 (s.1 + ((i + 1 : Nat) : Int) : Int)) ?_; refine pl_nil ?_
   refine qw_round [2, 3, 4, 9, 10, 11, 12] (ws' := [(2, .int .i64 lk), (3, .pointer (some ⟨O1, 0, none⟩)), (4, .pointer (some ⟨O5, 0, none⟩)), (9, .int .i64 (min ((Swath.rG (Swath.hgtJ o s lk j) (Swath.rF (Swath.hgtJ o s lk) (Swath.mins s) j) i).1 : Int) (Swath.hgtJ o s lk j i : Int) : Int)), (10, .int .i64 (max ((Swath.rG (Swath.hgtJ o s lk j) (Swath.rF (Swath.hgtJ o s lk) (Swath.mins s) j) i).2 : Int) (Swath.hgtJ o s lk j i : Int) : Int)), (11, .int .i64 (-o.sl + ((j : Nat) : Int) : Int)), (12, .int .i64 (s.1 + ((i + 1 : Nat) : Int) : Int))]) (by kernel_rfl) _ ?_ ⟨(i + 1), rfl, rfl, (T hs17 (T hs22 hs24)), hE, hX16, by omega⟩
   omega
  ·
   have him : i = Swath.mins s := by omega
   refine cw_seq ?_; refine cw_seq ?_; refine cw_plain ?_; refine pT (.int .i64 (s.1 + ((i : Nat) : Int) : Int)) ?_; refine pT (.pointer (some ⟨O5, 1, none⟩)) ?_
   have hY25 := hX9.trans hX12
   refine pU (.int .i64 s.2) (ex_load rfl (by kernel_rfl) (ld3 ((BoxAt.ext (hY25.trans hX16) bO5_1).1))) ?_
   refine pU (.bool false) (ev_ndec (show _ = Result.ok (Next.value (Value.bool (decide ((s.1 + ((i : Nat) : Int) : Int) < (s.2 : Int))))) _ from by kernel_rfl) (by omega)) ?_
   refine pl_nil ?_; refine qw_then ?_
   refine cw_f (by kernel_rfl) ?_
   refine cw_exit ?_
   refine qw_then_exit ?_
   refine qw_then_exit ?_
   refine qw_block_out ?_
   refine qw_block ?_
   refine qw_then ?_; refine cw_plain ?_; refine pT (.int .i64 (-o.sl + ((j : Nat) : Int) : Int)) ?_
   refine pU (.int .i64 (-o.sl + ((j + 1 : Nat) : Int) : Int)) (ev_int (ev_wrap (a := -o.sl + ((j : Nat) : Int) + 1) (by kernel_rfl) (by omega) (by omega)) (by omega)) ?_
   refine pT (.int .i64 (-o.sl + ((j + 1 : Nat) : Int) : Int)) ?_; refine pl_nil ?_
   refine qw_round [2, 3, 4, 9, 10, 11] (ws' := [(2, .int .i64 lk), (3, .pointer (some ⟨O1, 0, none⟩)), (4, .pointer (some ⟨O5, 0, none⟩)), (9, .int .i64 ((Swath.rG (Swath.hgtJ o s lk j) (Swath.rF (Swath.hgtJ o s lk) (Swath.mins s) j) i).1 : Int)), (10, .int .i64 ((Swath.rG (Swath.hgtJ o s lk j) (Swath.rF (Swath.hgtJ o s lk) (Swath.mins s) j) i).2 : Int)), (11, .int .i64 (-o.sl + ((j + 1 : Nat) : Int) : Int))]) (by kernel_rfl) _ ?_ ⟨(j + 1), (by rw [him]; rfl), rfl, (T hs13 hs17), hE, (hX12.trans hX16), by omega⟩
   omega
 ·
  have hjn : j = Swath.lates o := by omega
  refine cw_seq ?_; refine cw_seq ?_; refine cw_plain ?_; refine pT (.int .i64 (-o.sl + ((j : Nat) : Int) : Int)) ?_; refine pT (.pointer (some ⟨O1, 6, none⟩)) ?_
  refine pU (.int .i64 o.sl) (ex_load rfl (by kernel_rfl) (ld3 ((BoxAt.ext (hX9.trans hX12) bO1_6).1))) ?_
  refine pU (.bool false) (ev_ndec (show _ = Result.ok (Next.value (Value.bool (decide ((-o.sl + ((j : Nat) : Int) : Int) ≤ (o.sl : Int))))) _ from by kernel_rfl) (by omega)) ?_
  refine pl_nil ?_; refine qw_then ?_
  refine cw_f (by kernel_rfl) ?_
  refine cw_exit ?_
  refine qw_then_exit ?_
  refine qw_then_exit ?_
  refine qw_block_out ?_
  refine qw_then ?_; refine cw_seq ?_; refine cw_plain ?_; refine pT (.int .i64 ((Swath.rF (Swath.hgtJ o s lk) (Swath.mins s) j).1 : Int)) ?_; refine pT (.int .i64 ((Swath.rF (Swath.hgtJ o s lk) (Swath.mins s) j).2 : Int)) ?_; refine pT (.int .i64 ((Swath.rF (Swath.hgtJ o s lk) (Swath.mins s) j).1 : Int)) ?_; refine pT (.int .i64 ((Swath.rF (Swath.hgtJ o s lk) (Swath.mins s) j).2 : Int)) ?_; refine pT (.int .i64 0) ?_; refine pl_nil ?_; refine qw_then ?_; refine cC3 6 7 8 (fun L => ?_)
  refine cw_ret ?_
  refine qw_ret [.int .i64 ((Swath.rF (Swath.hgtJ o s lk) (Swath.mins s) j).1 : Int), .int .i64 ((Swath.rF (Swath.hgtJ o s lk) (Swath.mins s) j).2 : Int), .int .i64 0] rfl ⟨(by kernel_rfl), (by kernel_rfl), (by kernel_rfl), trivial⟩ ?_
  exact ⟨by rw [hjn, Swath.rF_suns hv]; rfl, hE⟩
set_option maxRecDepth 1000000 in
set_option maxHeartbeats 4000000 in
theorem rSuns_n {o : Orb} {s : Int × Int} {lk : Int} (w : World) (hv : Swath.shB o s lk = false) : Calls Try.prog 20 #[.agg #[.int .i64 o.p, .int .i64 o.f, .int .i64 o.lo, .int .i64 o.hi, .int .i64 o.nd, .int .i64 o.tn, .int .i64 o.sl], .agg #[.int .i64 s.1, .int .i64 s.2], .int .i64 lk] w fun e w' => e = .returned (.tuple #[.int .i64 0, .int .i64 0, .int .i64 80]) ∧ Ext w w' := by
 refine calls_cw 57 [(2, .int .i64 lk), (1, .agg #[.int .i64 s.1, .int .i64 s.2]), (0, .agg #[.int .i64 o.p, .int .i64 o.f, .int .i64 o.lo, .int .i64 o.hi, .int .i64 o.nd, .int .i64 o.tn, .int .i64 o.sl])] Try.func20 rfl Try.ntmps20 (by kernel_rfl) (by kernel_rfl) (fun L => ?_)
 have hE : Ext w w := Ext.refl w
 refine cw_seq ?_; refine cw_plain ?_
 refine pS (sn_new (us := #[.int .i64 o.p, .int .i64 o.f, .int .i64 o.lo, .int .i64 o.hi, .int .i64 o.nd, .int .i64 o.tn, .int .i64 o.sl]) (t := 24) (by kernel_rfl) ?_)
 intro O1 X2 hzO1 hyO1 hb hbx; have ⟨bO1_0, bO1_1, bO1_2, bO1_3, bO1_4, bO1_5, bO1_6⟩ := bx7 hbx; clear hbx
 replace hE := hE.trans hb; have hs3 := hb.size; clear hb; have lt4 := bO1_0.lt
 refine pS (sn_new (us := #[.int .i64 s.1, .int .i64 s.2]) (t := 26) (by kernel_rfl) ?_)
 intro O5 X6 hzO5 hyO5 hb hbx; have ⟨bO5_0, bO5_1⟩ := bx2 hbx; clear hbx
 replace hE := hE.trans hb; replace bO1_0 := BoxAt.ext hb bO1_0; replace bO1_1 := BoxAt.ext hb bO1_1; replace bO1_2 := BoxAt.ext hb bO1_2; replace bO1_3 := BoxAt.ext hb bO1_3; replace bO1_4 := BoxAt.ext hb bO1_4; replace bO1_5 := BoxAt.ext hb bO1_5; replace bO1_6 := BoxAt.ext hb bO1_6; have hs7 := hb.size; clear hb; have lt8 := bO5_0.lt; refine pT (.int .i64 0) ?_; refine pT (.int .i64 0) ?_; refine pT (.int .i64 0) ?_; refine pl_nil ?_; refine qw_then ?_; refine cw_seq ?_; refine cw_seq ?_; have hX9 : Ext X6 X6 := Ext.refl _; refine cw_plain ?_
 refine pU (.agg #[.int .i64 o.p, .int .i64 o.f, .int .i64 o.lo, .int .i64 o.hi, .int .i64 o.nd, .int .i64 o.tn, .int .i64 o.sl]) (ex_load rfl (by kernel_rfl) (ld24 (bO1_0.1) (bO1_1.1) (bO1_2.1) (bO1_3.1) (bO1_4.1) (bO1_5.1) (bO1_6.1))) ?_
 refine pU (.agg #[.int .i64 s.1, .int .i64 s.2]) (ex_load rfl (by kernel_rfl) (ld26 (bO5_0.1) (bO5_1.1))) ?_
 refine pT (.int .i64 lk) ?_
 refine pS (sn_call (f := 23) (args := #[.agg #[.int .i64 o.p, .int .i64 o.f, .int .i64 o.lo, .int .i64 o.hi, .int .i64 o.nd, .int .i64 o.tn, .int .i64 o.sl], .agg #[.int .i64 s.1, .int .i64 s.2], .int .i64 lk]) (by kernel_rfl) ((rValid8_r (r := false) o s lk _ (hv)).mono ?_))
 rintro e w10 ⟨rfl, hb⟩
 replace hE := hE.trans hb; replace hX9 := hX9.trans hb; have hs11 := hb.size; clear hb
 refine ⟨_, rfl, ?_⟩
 refine pT (.bool true) ?_; refine pl_nil ?_; refine qw_then ?_
 refine cw_t (by kernel_rfl) ?_
 refine cw_seq ?_; refine cw_plain ?_; refine pT (.int .i64 0) ?_; refine pT (.int .i64 0) ?_; refine pT (.int .i64 80) ?_; refine pl_nil ?_; refine qw_then ?_
 refine cw_ret ?_
 refine qw_then_ret ?_
 refine qw_ret [.int .i64 0, .int .i64 0, .int .i64 80] rfl ⟨(by kernel_rfl), (by kernel_rfl), (by kernel_rfl), trivial⟩ ?_
 exact ⟨rfl, hE⟩

end Go.Proofs.Ytdjjkhefdalokaa

/- Contracts of chapter 8, said alike of program and reference. -/
namespace Go.Proofs.Ytdjjkhefdalokaa
open Go.RowKit

/-- What an exposure shows, and the error, whatever is asked. -/
def shownL (o : Orb) (s : Int × Int) (lk d : Int) : List Int := if shdB o s lk d = true then Swath.showL o lk (s.1 - d) (s.2 - s.1).toNat else []
def shownE (o : Orb) (s : Int × Int) (lk d : Int) : Int := if shdB o s lk d = true then 0 else 80
def sureU (o : Orb) (s : Int × Int) (lk : Int) : List Int := if Swath.shB o s lk = true then Swath.sureL o s lk else []
def canU (o : Orb) (s : Int × Int) (lk : Int) : List Int := if Swath.shB o s lk = true then Swath.canL o s lk else []
def errU (o : Orb) (s : Int × Int) (lk : Int) : Int := if Swath.shB o s lk = true then 0 else 80
def sunU (o : Orb) (s : Int × Int) (lk : Int) : Int × Int := if Swath.shB o s lk = true then Swath.suns o s lk else (0, 0)
def bestB (o : Orb) (sp : Int × Int) (mi wd : Int) : Bool := Orb.ok o && Swath.spB sp 300 && Globe.inB mi 1 60 && Globe.inB wd 0 4
def bestU (o : Orb) (sp : Int × Int) (mi wd : Int) (l : List Int) : (Int × Int) × Int × Bool := if bestB o sp mi wd = true then Swath.best o sp mi wd.toNat l else ((0, 0), 0, false)
def bestE (o : Orb) (sp : Int × Int) (mi wd : Int) : Int := if bestB o sp mi wd = true then 0 else 80
def RetU (w : World) (L : List Int) (ec : Int) (e : Ending) (w' : World) : Prop :=
 ∃ (a : Option Addr) (n c : Nat), e = .returned (.tuple #[.agg #[.slice a n c], .int .i64 ec]) ∧ AA w' a L n (Globe.validL L) ∧ Ext w w'
def RetUU (w : World) (L1 L2 : List Int) (ec : Int) (e : Ending) (w' : World) : Prop :=
 ∃ (a : Option Addr) (n c : Nat) (a2 : Option Addr) (n2 c2 : Nat), e = .returned (.tuple #[.agg #[.slice a n c, .slice a2 n2 c2], .int .i64 ec]) ∧ AA w' a L1 n (Globe.validL L1) ∧ AA w' a2 L2 n2 (Globe.validL L2) ∧ Ext w w'
theorem aa_nil (w : World) : AA w none [] 0 (Globe.validL []) := ⟨.inl rfl, rfl, Nat.zero_le _, rfl⟩
theorem aa_rows {w : World} {B : Nat} {L : List Int} (h : RowsAt w B L) : AA w (some ⟨B, 0, none⟩) L 24 (Globe.validL L) := ⟨h.any, h.len, by omega, rfl⟩
section
variable (o : Orb) (s : Int × Int) (lk d : Int) (w : World)
theorem Shown_u : Calls Try.prog 14 #[.agg #[.int .i64 o.p, .int .i64 o.f, .int .i64 o.lo, .int .i64 o.hi, .int .i64 o.nd, .int .i64 o.tn, .int .i64 o.sl], .agg #[.int .i64 s.1, .int .i64 s.2], .int .i64 lk, .int .i64 d] w (RetU w (shownL o s lk d) (shownE o s lk d)) := by
 unfold shownL shownE
 cases h : shdB o s lk d
 · exact (Shown_n w h).mono fun e w' ⟨he, hE⟩ => ⟨none, 0, 0, he, aa_nil w', hE⟩
 · exact (Shown_y w h).mono fun e w' ⟨B, he, _, hr, hE⟩ => ⟨_, 24, 24, he, aa_rows hr, hE⟩
theorem rShown_u : Calls Try.prog 15 #[.agg #[.int .i64 o.p, .int .i64 o.f, .int .i64 o.lo, .int .i64 o.hi, .int .i64 o.nd, .int .i64 o.tn, .int .i64 o.sl], .agg #[.int .i64 s.1, .int .i64 s.2], .int .i64 lk, .int .i64 d] w (RetU w (shownL o s lk d) (shownE o s lk d)) := by
 unfold shownL shownE
 cases h : shdB o s lk d
 · exact (rShown_n w h).mono fun e w' ⟨he, hE⟩ => ⟨none, 0, 0, he, aa_nil w', hE⟩
 · exact (rShown_y w h).mono fun e w' ⟨B, he, _, hr, hE⟩ => ⟨_, 24, 24, he, aa_rows hr, hE⟩
theorem Strip_u : Calls Try.prog 17 #[.agg #[.int .i64 o.p, .int .i64 o.f, .int .i64 o.lo, .int .i64 o.hi, .int .i64 o.nd, .int .i64 o.tn, .int .i64 o.sl], .agg #[.int .i64 s.1, .int .i64 s.2], .int .i64 lk] w (RetUU w (sureU o s lk) (canU o s lk) (errU o s lk)) := by
 unfold sureU canU errU
 cases h : Swath.shB o s lk
 · exact (Strip_n w h).mono fun e w' ⟨he, hE⟩ => ⟨none, 0, 0, none, 0, 0, he, aa_nil w', aa_nil w', hE⟩
 · exact (Strip_y w h).mono fun e w' ⟨B, g, c1, c2, he, _, _, _, h1, h2, hE⟩ => ⟨_, 24, c1, _, 24, c2, he, aa_rows h1, aa_rows h2, hE⟩
theorem rStrip_u : Calls Try.prog 18 #[.agg #[.int .i64 o.p, .int .i64 o.f, .int .i64 o.lo, .int .i64 o.hi, .int .i64 o.nd, .int .i64 o.tn, .int .i64 o.sl], .agg #[.int .i64 s.1, .int .i64 s.2], .int .i64 lk] w (RetUU w (sureU o s lk) (canU o s lk) (errU o s lk)) := by
 unfold sureU canU errU
 cases h : Swath.shB o s lk
 · exact (rStrip_n w h).mono fun e w' ⟨he, hE⟩ => ⟨none, 0, 0, none, 0, 0, he, aa_nil w', aa_nil w', hE⟩
 · exact (rStrip_y w h).mono fun e w' ⟨B, g, c1, c2, he, _, _, _, h1, h2, hE⟩ => ⟨_, 24, c1, _, 24, c2, he, aa_rows h1, aa_rows h2, hE⟩
theorem Suns_u : Calls Try.prog 19 #[.agg #[.int .i64 o.p, .int .i64 o.f, .int .i64 o.lo, .int .i64 o.hi, .int .i64 o.nd, .int .i64 o.tn, .int .i64 o.sl], .agg #[.int .i64 s.1, .int .i64 s.2], .int .i64 lk] w fun e w' => e = .returned (.tuple #[.int .i64 (sunU o s lk).1, .int .i64 (sunU o s lk).2, .int .i64 (errU o s lk)]) ∧ Ext w w' := by
 unfold sunU errU
 cases h : Swath.shB o s lk
 · exact Suns_n w h
 · exact Suns_y w h
theorem rSuns_u : Calls Try.prog 20 #[.agg #[.int .i64 o.p, .int .i64 o.f, .int .i64 o.lo, .int .i64 o.hi, .int .i64 o.nd, .int .i64 o.tn, .int .i64 o.sl], .agg #[.int .i64 s.1, .int .i64 s.2], .int .i64 lk] w fun e w' => e = .returned (.tuple #[.int .i64 (sunU o s lk).1, .int .i64 (sunU o s lk).2, .int .i64 (errU o s lk)]) ∧ Ext w w' := by
 unfold sunU errU
 cases h : Swath.shB o s lk
 · exact rSuns_n w h
 · exact rSuns_y w h
end
theorem best_w {o : Orb} {sp : Int × Int} {mi wd : Int} (h : bestB o sp mi wd = true) : ∃ W : Nat, wd = ((W : Nat) : Int) ∧ Orb.ok o = true ∧ Swath.spB sp 300 = true ∧ Globe.inB mi 1 60 = true ∧ Globe.inB ((W : Nat) : Int) 0 4 = true := by
 unfold bestB at h
 simp only [Bool.and_eq_true] at h
 obtain ⟨⟨⟨h1, h2⟩, h3⟩, h4⟩ := h
 have h5 := Globe.inB_t.1 h4
 obtain ⟨W, rfl⟩ : ∃ W : Nat, wd = ((W : Nat) : Int) := ⟨wd.toNat, by omega⟩
 exact ⟨W, rfl, h1, h2, h3, h4⟩
theorem Best_u {w1 : World} {bb ob : Nat} {l : List Int} (o : Orb) (sp : Int × Int) (mi wd : Int) (c : Nat) (w : World) (hA : VA w1 bb ob l) (e1 : Ext w1 w) : Calls Try.prog 26 #[.agg #[.int .i64 o.p, .int .i64 o.f, .int .i64 o.lo, .int .i64 o.hi, .int .i64 o.nd, .int .i64 o.tn, .int .i64 o.sl], .agg #[.int .i64 sp.1, .int .i64 sp.2], .int .i64 mi, .int .i64 wd, .agg #[.slice (some ⟨bb, ob, none⟩) 24 c]] w fun e w' => e = .returned (.tuple #[.agg #[.int .i64 (bestU o sp mi wd l).1.1, .int .i64 (bestU o sp mi wd l).1.2], .int .i64 (bestU o sp mi wd l).2.1, .bool (bestU o sp mi wd l).2.2, .int .i64 (bestE o sp mi wd)]) ∧ Ext w w' := by
  unfold bestU bestE
  cases h : bestB o sp mi wd
  · exact Best_n c w hA.aa e1 (by rw [Bool.and_true]; exact h)
  · obtain ⟨W, rfl, g1, g2, g3, g4⟩ := best_w h
    exact Best_y c w hA.aa e1 g1 g2 g3 g4
theorem rBest_u {w1 : World} {bb ob : Nat} {l : List Int} (o : Orb) (sp : Int × Int) (mi wd : Int) (c : Nat) (w : World) (hA : VA w1 bb ob l) (e1 : Ext w1 w) : Calls Try.prog 27 #[.agg #[.int .i64 o.p, .int .i64 o.f, .int .i64 o.lo, .int .i64 o.hi, .int .i64 o.nd, .int .i64 o.tn, .int .i64 o.sl], .agg #[.int .i64 sp.1, .int .i64 sp.2], .int .i64 mi, .int .i64 wd, .agg #[.slice (some ⟨bb, ob, none⟩) 24 c]] w fun e w' => e = .returned (.tuple #[.agg #[.int .i64 (bestU o sp mi wd l).1.1, .int .i64 (bestU o sp mi wd l).1.2], .int .i64 (bestU o sp mi wd l).2.1, .bool (bestU o sp mi wd l).2.2, .int .i64 (bestE o sp mi wd)]) ∧ Ext w w' := by
  unfold bestU bestE
  cases h : bestB o sp mi wd
  · exact rBest_n c w hA e1 h
  · obtain ⟨W, rfl, g1, g2, g3, g4⟩ := best_w h
    exact rBest_y c w hA e1 g1 g2 g3 g4
theorem rSame_u {w1 w2 : World} {a1 a2 : Option Addr} {n1 n2 : Nat} (c1 c2 : Nat) {l : List Int} {v1 v2 : Bool} (w : World) (h1 : AA w1 a1 l n1 v1) (e1 : Ext w1 w) (h2 : AA w2 a2 l n2 v2) (e2 : Ext w2 w) :
  Calls Try.prog 16 #[.agg #[.slice a1 n1 c1], .agg #[.slice a2 n2 c2]] w fun e w' => e = .returned (.bool true) ∧ Ext w w' := by
 have h := rSame_c c1 c2 w h1 e1 h2 e2
 rwa [decide_eq_true rfl] at h
set_option maxRecDepth 1000000 in
set_option maxHeartbeats 4000000 in
theorem SameStrip_u {w0 : World} {a1 a2 a3 a4 : Option Addr} {n1 n2 n3 n4 c1 c2 c3 c4 : Nat} {l1 l2 : List Int} {v1 v2 v3 v4 : Bool} (w : World) (h1 : AA w0 a1 l1 n1 v1) (h2 : AA w0 a2 l2 n2 v2) (h3 : AA w0 a3 l1 n3 v3) (h4 : AA w0 a4 l2 n4 v4) (e0 : Ext w0 w) : Calls Try.prog 21 #[.agg #[.slice a1 n1 c1, .slice a2 n2 c2], .agg #[.slice a3 n3 c3, .slice a4 n4 c4]] w fun e w' => e = .returned (.bool true) ∧ Ext w w' := by
 refine calls_cw 17 [(1, .agg #[.slice a3 n3 c3, .slice a4 n4 c4]), (0, .agg #[.slice a1 n1 c1, .slice a2 n2 c2])] Try.func21 rfl Try.ntmps21 (by kernel_rfl) (by kernel_rfl) (fun L => ?_)
 have hE : Ext w w := Ext.refl w
 refine cw_seq ?_; refine cw_plain ?_
 refine pS (sn_new (us := #[.slice a1 n1 c1, .slice a2 n2 c2]) (t := 44) (by kernel_rfl) ?_)
 intro O1 X2 hzO1 hyO1 hb hbx; have ⟨bO1_0, bO1_1⟩ := bx2 hbx; clear hbx
 replace hE := hE.trans hb; have hs3 := hb.size; clear hb; have lt4 := bO1_0.lt
 refine pS (sn_new (us := #[.slice a3 n3 c3, .slice a4 n4 c4]) (t := 44) (by kernel_rfl) ?_)
 intro O5 X6 hzO5 hyO5 hb hbx; have ⟨bO5_0, bO5_1⟩ := bx2 hbx; clear hbx
 replace hE := hE.trans hb; replace bO1_0 := BoxAt.ext hb bO1_0; replace bO1_1 := BoxAt.ext hb bO1_1; have hs7 := hb.size; clear hb; have lt8 := bO5_0.lt; refine pT (.bool false) ?_; refine pl_nil ?_; refine qw_then ?_; refine cw_seq ?_; have hX9 : Ext X6 X6 := Ext.refl _; refine cw_plain ?_; refine pT (.pointer (some ⟨O1, 0, none⟩)) ?_
 refine pU (.agg #[.slice a1 n1 c1]) (ex_load rfl (by kernel_rfl) (ld31 (bO1_0.1))) ?_
 refine pT (.pointer (some ⟨O5, 0, none⟩)) ?_
 refine pU (.agg #[.slice a3 n3 c3]) (ex_load rfl (by kernel_rfl) (ld31 (bO5_0.1))) ?_
 refine pS (sn_call (f := 16) (args := #[.agg #[.slice a1 n1 c1], .agg #[.slice a3 n3 c3]]) (by kernel_rfl) ((rSame_u _ _ _ h1 (e0.trans hE) h3 (e0.trans hE)).mono ?_))
 rintro e w10 ⟨rfl, hb⟩
 replace hE := hE.trans hb; replace hX9 := hX9.trans hb; have hs11 := hb.size; clear hb
 refine ⟨_, rfl, ?_⟩
 refine pT (.bool true) ?_; refine pT (.pointer (some ⟨O1, 1, none⟩)) ?_
 refine pU (.agg #[.slice a2 n2 c2]) (ex_load rfl (by kernel_rfl) (ld31 ((BoxAt.ext hX9 bO1_1).1))) ?_
 refine pT (.pointer (some ⟨O5, 1, none⟩)) ?_
 refine pU (.agg #[.slice a4 n4 c4]) (ex_load rfl (by kernel_rfl) (ld31 ((BoxAt.ext hX9 bO5_1).1))) ?_
 refine pS (sn_call (f := 16) (args := #[.agg #[.slice a2 n2 c2], .agg #[.slice a4 n4 c4]]) (by kernel_rfl) ((rSame_u _ _ _ h2 (e0.trans hE) h4 (e0.trans hE)).mono ?_))
 rintro e w12 ⟨rfl, hb⟩
 replace hE := hE.trans hb; replace hX9 := hX9.trans hb; have hs13 := hb.size; clear hb
 refine ⟨_, rfl, ?_⟩
 refine pT (.bool true) ?_; refine pT (.bool true) ?_; refine pl_nil ?_; refine qw_then ?_; refine cC1 4 (fun L => ?_)
 refine cw_ret ?_
 refine qw_ret [.bool true] rfl ⟨(by kernel_rfl), trivial⟩ ?_
 exact ⟨rfl, hE⟩

end Go.Proofs.Ytdjjkhefdalokaa

/- Contract of the reference's Made: an area that integers determine. -/
namespace Go.Proofs.Ytdjjkhefdalokaa
open Go.RowKit

theorem rpick_c (c n : Int) (w : World) (hc : IsI c) (h0 : 0 < n) (h1 : n ≤ 100000000) : Calls Try.prog 39 #[.int .i64 c, .int .i64 n] w fun e w' => e = .returned (.int .i64 (pickF c n)) ∧ w = w' := by
  obtain ⟨h2, h3⟩ := hc
  by_cases h : c < 0
  · go_enter Try.func39, Try.ntmps39
    go_wp2
    go_ret
    exact ⟨ret_int (by rw [pickF_neg h, ← Int.neg_tmod, Int.tmod_eq_emod_of_nonneg (by omega)]), rfl⟩
  · have h' : 0 ≤ c := by omega
    go_enter Try.func39, Try.ntmps39
    go_wp2
    go_ret
    exact ⟨ret_int (by rw [pickF_pos h']), rfl⟩
/-- The slice at a (n elements) reads as rows of four ints. -/
def QAt (w : World) (a : Option Addr) (n : Nat) (q : Nat → Nat → Int) : Prop :=
 n = 0 ∨ ∃ b off, a = some ⟨b, off, none⟩ ∧ ∀ i, i < n → ∀ j, j < 4 → w.cell? ⟨b, off + i * 4 + j, none⟩ = some (.int .i64 (q i j)) ∧ IsI (q i j)
theorem QAt.ext {w w' : World} {a : Option Addr} {n : Nat} {q : Nat → Nat → Int} (h : QAt w a n q) (hE : Ext w w') : QAt w' a n q :=
 h.imp id fun ⟨b, off, ha, hc⟩ => ⟨b, off, ha, fun i hi j hj => ⟨hE.cell (hc i hi j hj).1, (hc i hi j hj).2⟩⟩

set_option maxHeartbeats 4000000 in
theorem Made_c {w0 : World} {a : Option Addr} {n : Nat} (c : Nat) {q : Nat → Nat → Int} (w : World) (h : QAt w0 a n q) (hE0 : Ext w0 w) (hn : n ≤ 9223372036854775807) :
    Calls Try.prog 10 #[.slice a n c] w (RetM w) := by
  have H := Lib.hid (h.ext hE0); clear h hE0
  go_enter Try.func10, Try.ntmps10
  go_wp2_with (go_at_call 38; refine (rEmpty_c _).mono ?_; rintro e w2 ⟨B, rfl, hB, hr, hb2⟩)
  obtain ⟨O, hO⟩ : ∃ O, O = w2.heap.size := ⟨_, rfl⟩
  have hBO : B < O := by have := hr.lt; omega
  have hwB : w.heap.size < B := by simp at hB; omega
  refine wp_name (fun V => Mk w O B V) ⟨?_, ?_, ?_, ?_⟩ ?_
  · exact ⟨_, Globe.valid_zero, hr.ext (by (repeat' (first | (with_reducible assumption) | (with_reducible exact Ext.refl _) | (with_reducible refine Ext.alloc ?_ _) | (with_reducible refine Ext.drew ?_) | (with_reducible refine Ext.drewN ?_ _) | (with_reducible refine Ext.setCell ?_ ?_ _) | (with_reducible refine Ext.trans ?_ (by assumption)) | go_size)))⟩
  · rw [hO]; simp [go_sem]
  · (repeat' (first | (with_reducible assumption) | (exact ⟨by simp [go_sem], by simp [go_sem]⟩) | (with_reducible refine BoxAt.ext (Ext.alloc (Ext.refl _) _) ?_) | (with_reducible refine BoxAt.ext (by with_reducible assumption) ?_)))
  · (repeat' (first | (with_reducible assumption) | (with_reducible exact Ext.refl _) | (with_reducible refine Ext.alloc ?_ _) | (with_reducible refine Ext.drew ?_) | (with_reducible refine Ext.drewN ?_ _) | (with_reducible refine Ext.setCell ?_ ?_ _) | (with_reducible refine Ext.trans ?_ (by assumption)) | go_size))
  intro V hF
  rw [← hO]
  clear hO hr hb2 hB
  go_loopw [4] (fun p wr => ∃ i : Nat, i ≤ n ∧ p = .int .i64 i ∧ Mk w O B wr) (fun p _ => n - (intOf p).toNat)
  case atStart => exact ⟨0, by omega, rfl, hF⟩
  case round =>
    clear hF
    obtain ⟨i, hi, rfl, hF⟩ := hrel
    by_cases hlt : i < n
    · by_cases hl8 : i < 8
      · obtain ⟨b, off, rfl, hq⟩ : ∃ b off, a = some ⟨b, off, none⟩ ∧ ∀ i, i < n → ∀ j, j < 4 → w.cell? ⟨b, off + i * 4 + j, none⟩ = some (.int .i64 (q i j)) ∧ IsI (q i j) := H.out.resolve_left (by omega)
        have q0 : w.cell? ⟨b, off + i * 4, none⟩ = some (.int .i64 (q i 0)) := (hq i hlt 0 (by omega)).1
        have q1 := (hq i hlt 1 (by omega)).1
        have q2 := (hq i hlt 2 (by omega)).1
        have q3 := (hq i hlt 3 (by omega)).1
        have I0 := Lib.hid (hq i hlt 0 (by omega)).2
        have I1 := Lib.hid (hq i hlt 1 (by omega)).2
        have I2 := Lib.hid (hq i hlt 2 (by omega)).2
        have I3 := Lib.hid (hq i hlt 3 (by omega)).2
        clear hq
        have p0 := q0; have p1 := q1; have p2 := q2; have p3 := q3
        have hbl := World.block_lt_of_cell? w _ q0
        have i0 : (0 : Int) ≤ (i : Int) := by omega
        have i1 : (i : Int) < (n : Int) := by omega
        obtain ⟨wo, rfl⟩ : ∃ wo : World, wo = wr := ⟨_, rfl⟩
        go_wp2_with fail
        go_loopw [5] (fun p wr => ∃ y : Nat, y ≤ 8 ∧ p = .int .i64 y ∧ Mk w O B wr) (fun p _ => 8 - (intOf p).toNat)
        case atStart => exact ⟨0, by omega, rfl, hF⟩
        case round =>
          clear hF
          obtain ⟨y, hy, rfl, hF⟩ := hrel
          have hE := hF.2.2.2
          replace q0 := hE.cell q0; replace q1 := hE.cell q1; replace q2 := hE.cell q2; replace q3 := hE.cell q3
          obtain ⟨hh0, hh1⟩ := @pickF_bd (q i 3) 8 (by omega)
          by_cases hly : (y : Int) ≤ pickF (q i 3) 8
          · go_wp2_with (go_at_call 39; refine (rpick_c _ _ _ (by first | exact I0.out | exact I1.out | exact I2.out | exact I3.out) (by omega) (by omega)).mono ?_; rintro e w' ⟨rfl, rfl⟩)
            obtain ⟨wo2, rfl⟩ : ∃ wo2 : World, wo2 = wr := ⟨_, rfl⟩
            go_loopw [6] (fun p wr => ∃ k : Nat, k ≤ 8 ∧ p = .int .i64 k ∧ Mk w O B wr ∧ Ext w wr) (fun p _ => 8 - (intOf p).toNat)
            case atStart => exact ⟨0, by omega, rfl, hF, hE⟩
            case round =>
              clear hF q0 q1 q2 q3 hE
              obtain ⟨k, hk, rfl, hF, hE⟩ := hrel
              have q0 := hE.cell p0
              have q1 := hE.cell p1
              have q2 := hE.cell p2
              have q3 := hE.cell p3
              obtain ⟨g0, g1⟩ := @pickF_bd (q i 2) 8 (by omega)
              obtain ⟨y0, y1⟩ := @pickF_bd (q i 1) 24 (by omega)
              obtain ⟨x0, x1⟩ := @pickF_bd (q i 0) 48 (by omega)
              by_cases hlk : (k : Int) ≤ pickF (q i 2) 8
              · by_cases hyy : pickF (q i 1) 24 + (y : Int) < 24
                · go_wp2_with (go_at_call 39; refine (rpick_c _ _ _ (by first | exact I0.out | exact I1.out | exact I2.out | exact I3.out) (by omega) (by omega)).mono ?_; rintro e w' ⟨rfl, rfl⟩)
                  obtain ⟨⟨L, hv, hr⟩, cO, b2, hE2⟩ := hF
                  have Ta : Hid (IntKind.i64.wrap (pickF (q i 0) 48 + (k : Int)) = pickF (q i 0) 48 + (k : Int)) := by show _ = _; rw [IntKind.wrap_i64]; omega
                  have Tb : Hid (IntKind.i64.wrap (pickF (q i 1) 24 + (y : Int)) = pickF (q i 1) 24 + (y : Int)) := by show _ = _; rw [IntKind.wrap_i64]; omega
                  obtain ⟨Y, hY⟩ : ∃ Y : Nat, pickF (q i 1) 24 + (y : Int) = (Y : Int) := ⟨(pickF (q i 1) 24 + (y : Int)).toNat, by omega⟩
                  have hY24 : Y < 24 := by omega
                  have HY := Lib.hid hY; clear hY
                  have hBb : b ≠ B := by omega
                  have hOB : O ≠ B := by omega
                  refine wp_region_held_drew (S := fun w' => w'.cell? ⟨O, 0, none⟩ = some (.slice (some ⟨B, 0, none⟩) 24 24) ∧ w'.cell? ⟨b, off + i * 4, none⟩ = some (.int .i64 (q i 0)) ∧ w'.cell? ⟨b, off + i * 4 + 1, none⟩ = some (.int .i64 (q i 1))) (by kernel_rfl) ⟨cO, q0, q1⟩ (fun hHeld => ?_)
                  (refine rg_take 0 (v := ?_) rfl (by kernel_rfl) (by kernel_rfl) (by kernel_rfl) (fun _ _ _ h => h) (by kernel_rfl) ?_ (by with_reducible assumption) ?_; rotate_left; (focus (intro w hSw; (try dsimp only at hSw); go_simp; (try with_reducible rfl))); (try simp only [Act.put, List.setIfInBounds_toArray, List.set_cons_zero, List.set_cons_succ]))
                  (refine rg_take 1 (v := ?_) rfl (by kernel_rfl) (by kernel_rfl) (by kernel_rfl) (fun _ _ _ h => h) (by kernel_rfl) ?_ (by with_reducible assumption) ?_; rotate_left; (focus (intro w hSw; (try dsimp only at hSw); go_simp; (try with_reducible rfl))); (try simp only [Act.put, List.setIfInBounds_toArray, List.set_cons_zero, List.set_cons_succ]))
                  (refine rg_take 2 (v := ?_) rfl (by kernel_rfl) (by kernel_rfl) (by kernel_rfl) (fun _ _ _ h => h) (by kernel_rfl) ?_ (by with_reducible assumption) ?_; rotate_left; (focus (intro w hSw; (try dsimp only at hSw); go_simp; (try with_reducible rfl))); (try simp only [Act.put, List.setIfInBounds_toArray, List.set_cons_zero, List.set_cons_succ]))
                  (refine rg_take 3 (v := ?_) rfl (by kernel_rfl) (by kernel_rfl) (by kernel_rfl) (fun _ _ _ h => h) (by kernel_rfl) ?_ (by with_reducible assumption) ?_; rotate_left; (focus (intro w hSw; (try dsimp only at hSw); go_simp; (try with_reducible rfl))); (try simp only [Act.put, List.setIfInBounds_toArray, List.set_cons_zero, List.set_cons_succ]))
                  (refine rg_take 4 (v := ?_) rfl (by kernel_rfl) (by kernel_rfl) (by kernel_rfl) (fun _ _ _ h => h) (by kernel_rfl) ?_ (by with_reducible assumption) ?_; rotate_left; (focus (intro w hSw; (try dsimp only at hSw); go_simp; (try with_reducible rfl))); (try simp only [Act.put, List.setIfInBounds_toArray, List.set_cons_zero, List.set_cons_succ]))
                  (refine rg_take 5 (v := ?_) rfl (by kernel_rfl) (by kernel_rfl) (by kernel_rfl) (fun _ _ _ h => h) (by kernel_rfl) ?_ (by with_reducible assumption) ?_; rotate_left; (focus (intro w hSw; (try dsimp only at hSw); go_simp; (try with_reducible rfl))); (try simp only [Act.put, List.setIfInBounds_toArray, List.set_cons_zero, List.set_cons_succ]))
                  (refine rg_take 7 (v := ?_) rfl (by kernel_rfl) (by kernel_rfl) (by kernel_rfl) (fun _ _ _ h => h) (by kernel_rfl) ?_ (by with_reducible assumption) ?_; rotate_left; (focus (intro w hSw; (try dsimp only at hSw); go_simp; (try with_reducible rfl))); (try simp only [Act.put, List.setIfInBounds_toArray, List.set_cons_zero, List.set_cons_succ]))
                  (refine rg_take 9 (v := ?_) rfl (by kernel_rfl) (by kernel_rfl) (by kernel_rfl) (fun _ _ _ h => h) (by kernel_rfl) ?_ (by with_reducible assumption) ?_; rotate_left; (focus (intro w hSw; (try dsimp only at hSw); go_simp; (try with_reducible rfl))); (try simp only [Act.put, List.setIfInBounds_toArray, List.set_cons_zero, List.set_cons_succ]))
                  (refine rg_take 10 (v := ?_) rfl (by kernel_rfl) (by kernel_rfl) (by kernel_rfl) (fun _ _ _ h => h) (by kernel_rfl) ?_ (by with_reducible assumption) ?_; rotate_left; (focus (intro w hSw; (try dsimp only at hSw); go_simp; (try with_reducible rfl))); (try simp only [Act.put, List.setIfInBounds_toArray, List.set_cons_zero, List.set_cons_succ]))
                  (refine rg_take 11 (v := ?_) rfl (by kernel_rfl) (by kernel_rfl) (by kernel_rfl) (fun _ _ _ h => h) (by kernel_rfl) ?_ (by with_reducible assumption) ?_; rotate_left; (focus (intro w hSw; (try dsimp only at hSw); go_simp; (try with_reducible rfl))); (try simp only [Act.put, List.setIfInBounds_toArray, List.set_cons_zero, List.set_cons_succ]))
                  (refine rg_take 12 (v := ?_) rfl (by kernel_rfl) (by kernel_rfl) (by kernel_rfl) (fun _ _ _ h => h) (by kernel_rfl) ?_ (by with_reducible assumption) ?_; rotate_left; (focus (intro w hSw; (try dsimp only at hSw); go_simp; (try with_reducible rfl))); (try simp only [Act.put, List.setIfInBounds_toArray, List.set_cons_zero, List.set_cons_succ]))
                  (refine rg_take 13 (v := ?_) rfl (by kernel_rfl) (by kernel_rfl) (by kernel_rfl) (fun _ _ _ h => h) (by kernel_rfl) ?_ (by with_reducible assumption) ?_; rotate_left; (focus (intro w hSw; (try dsimp only at hSw); go_simp; (try with_reducible rfl))); (try simp only [Act.put, List.setIfInBounds_toArray, List.set_cons_zero, List.set_cons_succ]))
                  (refine rg_take 15 (v := ?_) rfl (by kernel_rfl) (by kernel_rfl) (by kernel_rfl) (fun _ _ _ h => h) (by kernel_rfl) ?_ (by with_reducible assumption) ?_; rotate_left; (focus (intro w hSw; (try dsimp only at hSw); go_simp; (try with_reducible rfl))); (try simp only [Act.put, List.setIfInBounds_toArray, List.set_cons_zero, List.set_cons_succ]))
                  (refine rg_step 6 rfl (by kernel_rfl) (by kernel_rfl) (fun K hK => ?_); go_simp; (go_at_call 39; refine (rpick_c _ _ _ I0.out (by omega) (by omega)).mono ?_; rintro e w' ⟨rfl, rfl⟩); refine hK.out _ _ (hHeld) (fun hHeld => ?_); clear hK K; (try simp only [Act.put, List.setIfInBounds_toArray, List.set_cons_zero, List.set_cons_succ]))
                  (refine rg_take 8 (v := ?_) rfl (by kernel_rfl) (by kernel_rfl) (by kernel_rfl) (fun _ _ _ h => h) (by kernel_rfl) ?_ (by with_reducible assumption) ?_; rotate_left; (focus (intro w hSw; (try dsimp only at hSw); have ta := Ta.out; go_simp; (try with_reducible rfl))); (try simp only [Act.put, List.setIfInBounds_toArray, List.set_cons_zero, List.set_cons_succ]))
                  (refine rg_step 14 rfl (by kernel_rfl) (by kernel_rfl) (fun K hK => ?_); go_simp; (go_at_call 39; refine (rpick_c _ _ _ I1.out (by omega) (by omega)).mono ?_; rintro e w' ⟨rfl, rfl⟩); refine hK.out _ _ (hHeld) (fun hHeld => ?_); clear hK K; (try simp only [Act.put, List.setIfInBounds_toArray, List.set_cons_zero, List.set_cons_succ]))
                  (refine rg_take 16 (v := ?_) rfl (by kernel_rfl) (by kernel_rfl) (by kernel_rfl) (fun _ _ _ h => h) (by kernel_rfl) ?_ (by with_reducible assumption) ?_; rotate_left; (focus (intro w hSw; (try dsimp only at hSw); (have tb := Tb.out; have hY := HY.out; rw [hY] at tb); go_simp; (try with_reducible rfl))); (try simp only [Act.put, List.setIfInBounds_toArray, List.set_cons_zero, List.set_cons_succ]))
                  (refine rg_step 17 rfl (by kernel_rfl) (by kernel_rfl) (fun K hK => ?_); go_simp; (go_at_call 40; refine (put_c B 24 L _ Y _ hr.drew hv hY24).mono ?_; rintro e w3 ⟨⟨v, rfl⟩, hr3, hg3⟩); refine hK.out _ _ (⟨grown_cell hg3 hHeld.1 hOB, grown_cell hg3 hHeld.2.1 hBb, grown_cell hg3 hHeld.2.2 hBb⟩) (fun hHeld => ?_); clear hK K; (try simp only [Act.put, List.setIfInBounds_toArray, List.set_cons_zero, List.set_cons_succ]))
                  refine wpAnyH_done (by kernel_rfl) ?_ _
                  go_wp2
                  go_roundw
                  case rel => exact ⟨k + 1, by omega, by go_num, ⟨⟨_, Globe.valid_put hv (modN_lt _), hr3⟩, hHeld.1, BoxAt.grown hg3 b2.drew (by omega), (Ext.drew hE2).grown hg3 (by omega)⟩, (Ext.drew hE).grown hg3 (by have := hr.lt; omega)⟩
                  case measure => simp [intOf]; omega
                · go_wp2_with (go_at_call 39; refine (rpick_c _ _ _ (by first | exact I0.out | exact I1.out | exact I2.out | exact I3.out) (by omega) (by omega)).mono ?_; rintro e w' ⟨rfl, rfl⟩)
                  go_roundw
                  case rel => exact ⟨k + 1, by omega, by go_num, hF, hE⟩
                  case measure => simp [intOf]; omega
              · go_wp2_with (go_at_call 39; refine (rpick_c _ _ _ (by first | exact I0.out | exact I1.out | exact I2.out | exact I3.out) (by omega) (by omega)).mono ?_; rintro e w' ⟨rfl, rfl⟩)
                go_roundw
                case rel => exact ⟨y + 1, by omega, by go_num, hF⟩
                case measure => simp [intOf]; omega
          · go_wp2_with (go_at_call 39; refine (rpick_c _ _ _ (by first | exact I0.out | exact I1.out | exact I2.out | exact I3.out) (by omega) (by omega)).mono ?_; rintro e w' ⟨rfl, rfl⟩)
            go_roundw
            case rel => exact ⟨i + 1, by omega, by go_num, hF⟩
            case measure => simp [intOf]; omega
      · obtain ⟨⟨L, hv, hr⟩, cO, ⟨c2, f2⟩, hE⟩ := hF
        go_wp2_with fail
        have hr3 := hr.other (p := ⟨w.heap.size, 0, none⟩) (by show w.heap.size ≠ B; omega) (.slice (some ⟨B, 0, none⟩) 24 24)
        exact bodyPost_ret (v := .agg #[.slice (some ⟨B, 0, none⟩) 24 24]) (by simp [results, Try.results10, go_sem, c2]) rfl ⟨B, L, rfl, by omega, hv, hr3, hr3.va hv, by (repeat' (first | (with_reducible assumption) | (with_reducible exact Ext.refl _) | (with_reducible refine Ext.alloc ?_ _) | (with_reducible refine Ext.drew ?_) | (with_reducible refine Ext.drewN ?_ _) | (with_reducible refine Ext.setCell ?_ ?_ _) | (with_reducible refine Ext.trans ?_ (by assumption)) | go_size))⟩
    · obtain rfl : i = n := by omega
      obtain ⟨⟨L, hv, hr⟩, cO, ⟨c2, f2⟩, hE⟩ := hF
      go_wp2_with fail
      have hr3 := hr.other (p := ⟨w.heap.size, 0, none⟩) (by show w.heap.size ≠ B; omega) (.slice (some ⟨B, 0, none⟩) 24 24)
      exact bodyPost_ret (v := .agg #[.slice (some ⟨B, 0, none⟩) 24 24]) (by simp [results, Try.results10, go_sem, c2]) rfl ⟨B, L, rfl, by omega, hv, hr3, hr3.va hv, by (repeat' (first | (with_reducible assumption) | (with_reducible exact Ext.refl _) | (with_reducible refine Ext.alloc ?_ _) | (with_reducible refine Ext.drew ?_) | (with_reducible refine Ext.drewN ?_ _) | (with_reducible refine Ext.setCell ?_ ?_ _) | (with_reducible refine Ext.trans ?_ (by assumption)) | go_size))⟩

end Go.Proofs.Ytdjjkhefdalokaa
