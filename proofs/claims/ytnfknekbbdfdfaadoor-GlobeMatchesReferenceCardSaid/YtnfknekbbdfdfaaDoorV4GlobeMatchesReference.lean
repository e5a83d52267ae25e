/- Part 4 of what the proof of GlobeMatchesReference stands on. -/
import Derived.Test.YtnfknekbbdfdfaaDoorV3GlobeMatchesReference
/- The walk of the law GlobeMatchesReference. -/
namespace Go.Proofs.YtnfknekbbdfdfaaDoor
open Go.RowKit Go.Shelf

open Globe
theorem growL_le (l : List Int) (n : Nat) : (Globe.growL l n).length ≤ max l.length 24 := by
  cases n with
  | zero => exact Nat.le_max_left _ _
  | succ n => unfold Globe.growL Globe.grow1; rw [Globe.rowsF_len]; omega
theorem RowsAt.aaL {w : World} {B : Nat} {L : List Int} (h : RowsAt w B L) : AA w (some ⟨B, 0, none⟩) L 24 (Globe.validL L) := ⟨h.any, h.len, by omega, rfl⟩
theorem aa_of {w : World} {a : Option Addr} {l : List Int} (h : IntsAt w a l) (hb : l.length ≤ 140737488355328) : AA w a l l.length (Globe.validL l) := ⟨h, rfl, hb, rfl⟩
theorem rSame_t {w1 w2 : World} {a1 a2 : Option Addr} {l : List Int} {n : Nat} {v1 v2 : Bool} (c1 c2 : Nat) (w : World) (h1 : AA w1 a1 l n v1) (e1 : Ext w1 w) (h2 : AA w2 a2 l n v2) (e2 : Ext w2 w) :
    Calls Tryd.prog 21 #[.agg #[.slice a1 n c1], .agg #[.slice a2 n c2]] w fun e w' => e = .returned (.bool true) ∧ Ext w w' := by
  have h := rSame_c c1 c2 w h1 e1 h2 e2
  rwa [decide_eq_true rfl] at h
theorem Turns.ints {O : Nat} {w X : World} (h : Turns O w X) {a : Option Addr} {l : List Int} (hne : ∀ ad, a = some ad → ad.block ≠ O) (hv : IntsAt w a l) : IntsAt X a l := by
  rcases hv with q | ⟨b, off, rfl, q⟩
  · exact .inl q
  · exact .inr ⟨b, off, rfl, fun i hi => h.cell (fun e => hne _ rfl e.symm) (q i hi)⟩
/-- A row that is written in place. -/
theorem sn_row {P : Program} {ev : Operand → Value} {oi : Oper} {w : World} {N : Value → World → Prop} {g y : Nat} {L : List Int} {v : Int} (h1 : (execOp ev oi).run P w = .ok .skip (w.setCell ⟨g, y, none⟩ (.int .i64 v))) (hr : RowsAt w g L) (hy : y < 24)
    (h : ∀ X, Turns g w X → RowsAt X g (L.set y v) → N undef X) : StepN P ev oi w N := sn_skp h1 (h _ (turns_set _ _ _ _) (hr.set hy v))
theorem pickN_c (c : Int) (n : Nat) (w : World) (hc : IsI c) (h0 : 0 < n) (h1 : n ≤ 100000000) : Calls Tryd.prog 12 #[.int .i64 c, .int .i64 (n : Int)] w fun e w' => ∃ k : Nat, e = .returned (.int .i64 (k : Int)) ∧ k < n ∧ pickF c n = (k : Int) ∧ w = w' :=
  (pick_c c n w hc (by omega) (by omega)).mono fun e w' ⟨he, hw⟩ => by
    have hb := pickF_bd (c := c) (n := (n : Int)) (by omega)
    obtain ⟨k, hk⟩ : ∃ k : Nat, pickF c n = (k : Int) := ⟨(pickF c n).toNat, by omega⟩
    exact ⟨k, by rw [he, hk], by omega, hk, hw⟩
theorem Bx {w w' : World} {b o : Nat} {v : Value} (h : Ext w w') (k : BoxAt w b o v) : BoxAt w' b o v := BoxAt.ext h k
theorem tr {a b c : Nat} (h : a ≤ b) (k : b ≤ c) : a ≤ c := Nat.le_trans h k
section
variable {P : Program} {n : Nat} {L : List Value} {ws : List (Nat × Value)} {w : World} {ops0 ops : Array Oper} {Q' : Exit → Act → World → Prop} {T : List Row} {S : World → Prop} {fuel : Nat} {done : List Nat}
theorem wk (i : Nat) {d : Nat} {oi : Oper} {r : List Oper} (v : Value) (hR : Reg P ops0 ops Q' L T) (hS : S w) (h : WD P ops Q' S L fuel (i :: done) ((d, v) :: ws) w) (hi : ops0.toList.drop i = oi :: r := by rfl) (hr : readyT T done i = true := by kernel_rfl) (hdst : oi.dst = some d := by rfl)
    (hw : wantedW T L ws oi.guard = true := by kernel_rfl) (hy : ∀ w, S w → (execOp (evalW L ws) oi).run P w = .ok (.value v) w := by exact fun w _ => by kernel_rfl) : WD P ops Q' S L (fuel + 1) done ws w := wd_take i v hR hi hr hdst hw hy hS h
theorem wl (i : Nat) {d : Nat} {oi : Oper} {r : List Oper} (v : Value) (hR : Reg P ops0 ops Q' L T) (hS : S w) (hi : ops0.toList.drop i = oi :: r) (hy : ∀ w, S w → (execOp (evalW L ws) oi).run P w = .ok (.value v) w) (h : WD P ops Q' S L fuel (i :: done) ((d, v) :: ws) w) (hr : readyT T done i = true := by kernel_rfl) (hdst : oi.dst = some d := by rfl)
    (hw : wantedW T L ws oi.guard = true := by kernel_rfl) : WD P ops Q' S L (fuel + 1) done ws w := wd_take i v hR hi hr hdst hw hy hS h
theorem pk {Q : Exit → Act → World → Prop} {ops rest : List Oper} {o : Oper} {d : Nat} (v : Value) (h : PL P ops rest Q n L ((d, v) :: ws) w) (hdst : o.dst = some d := by rfl) (hok : dstOk n ops = true := by kernel_rfl) (hd : Nat.blt d n = true := by kernel_rfl) (hw : wantP ops L ws o.guard = true := by kernel_rfl)
    (hr : (execOp (evalW L ws) o).run P w = .ok (.value v) w := by kernel_rfl) : PL P ops (o :: rest) Q n L ws w := pl_take v hdst hok hd hw hr h
end
set_option maxRecDepth 1000000 in
set_option maxHeartbeats 4000000 in
theorem GlobeMatchesReference_walk (w : World) (v0 : Value) (o0 : Quads w v0) (v1 : Value) (o1 : Quads w v1) (v2 : Value) (o2 : AnArea w v2) (row : Int) (_i3 : IsI row) (v4 : Value) (o4 : Pair v4) (v5 : Value) (o5 : Pair v5) (v6 : Value) (o6 : Four v6) (hT : Tab w) :
    Calls Tryd.prog 3 #[v0, v1, v2, .int .i64 row, v4, v5, v6] w fun e w' => e = .returned (.bool true) ∧ Ext w w' := by
 obtain ⟨a0, n0, c0, q0, rfl, hn0, Q0⟩ := o0
 obtain ⟨a1, n1, c1, q1, rfl, hn1, Q1⟩ := o1
 obtain ⟨aR, nR, kR, lR, rfl, A1, rfl, A3, A4, A5, A6⟩ := o2
 obtain ⟨ax, ay, rfl, i4, i5⟩ := o4
 obtain ⟨bx, bY, rfl, i6, i7⟩ := o5
 obtain ⟨m0, m1, m2, m3, rfl, j0, j1, j2, j3⟩ := o6
 refine calls_cw 528 [(6, .agg #[.int .i64 (m0 : Int), .int .i64 (m1 : Int), .int .i64 (m2 : Int), .int .i64 (m3 : Int)]), (5, .agg #[.int .i64 (bx : Int), .int .i64 (bY : Int)]), (4, .agg #[.int .i64 (ax : Int), .int .i64 (ay : Int)]), (3, .int .i64 (row : Int)), (2, .agg #[.slice aR lR.length kR]), (1, .slice a1 n1 c1), (0, .slice a0 n0 c0)] Tryd.func3 rfl Tryd.ntmps3 (by kernel_rfl) (by kernel_rfl) (fun L => ?_)
 have hE : Ext w w := Ext.refl w
 refine cw_seq ?_
 refine cw_plain ?_
 refine pl_step rfl (by kernel_rfl) (by kernel_rfl) (by kernel_rfl) (sn_new (us := #[.slice aR lR.length kR]) (t := 25) (by kernel_rfl) ?_)
 intro O1 X2 hO hOs hb hbx
 have hzO1 := hO; have hyO1 := hOs; clear hO hOs
 have bO1_0 : BoxAt X2 O1 0 (.slice aR lR.length kR) := hbx 0 _ rfl
 clear hbx
 replace hE := hE.trans hb
 have hs3 := hb.size
 clear hb
 have lt4 := bO1_0.lt
 refine pl_step rfl (by kernel_rfl) (by kernel_rfl) (by kernel_rfl) (sn_new (us := #[.int .i64 (ax : Int), .int .i64 (ay : Int)]) (t := 27) (by kernel_rfl) ?_)
 intro O5 X6 hO hOs hb hbx
 have hzO5 := hO; have hyO5 := hOs; clear hO hOs
 have bO5_0 : BoxAt X6 O5 0 (.int .i64 (ax : Int)) := hbx 0 _ rfl
 have bO5_1 : BoxAt X6 O5 1 (.int .i64 (ay : Int)) := hbx 1 _ rfl
 clear hbx
 replace hE := hE.trans hb
 replace bO1_0 := Bx hb bO1_0
 have hs7 := hb.size
 clear hb
 have lt8 := bO5_0.lt
 refine pl_step rfl (by kernel_rfl) (by kernel_rfl) (by kernel_rfl) (sn_new (us := #[.int .i64 (bx : Int), .int .i64 (bY : Int)]) (t := 27) (by kernel_rfl) ?_)
 intro O9 X10 hO hOs hb hbx
 have hzO9 := hO; have hyO9 := hOs; clear hO hOs
 have bO9_0 : BoxAt X10 O9 0 (.int .i64 (bx : Int)) := hbx 0 _ rfl
 have bO9_1 : BoxAt X10 O9 1 (.int .i64 (bY : Int)) := hbx 1 _ rfl
 clear hbx
 replace hE := hE.trans hb
 replace bO1_0 := Bx hb bO1_0
 replace bO5_0 := Bx hb bO5_0
 replace bO5_1 := Bx hb bO5_1
 have hs11 := hb.size
 clear hb
 have lt12 := bO9_0.lt
 refine pl_step rfl (by kernel_rfl) (by kernel_rfl) (by kernel_rfl) (sn_new (us := #[.int .i64 (m0 : Int), .int .i64 (m1 : Int), .int .i64 (m2 : Int), .int .i64 (m3 : Int)]) (t := 28) (by kernel_rfl) ?_)
 intro O13 X14 hO hOs hb hbx
 have hzO13 := hO; have hyO13 := hOs; clear hO hOs
 have bO13_0 : BoxAt X14 O13 0 (.int .i64 (m0 : Int)) := hbx 0 _ rfl
 have bO13_1 : BoxAt X14 O13 1 (.int .i64 (m1 : Int)) := hbx 1 _ rfl
 have bO13_2 : BoxAt X14 O13 2 (.int .i64 (m2 : Int)) := hbx 2 _ rfl
 have bO13_3 : BoxAt X14 O13 3 (.int .i64 (m3 : Int)) := hbx 3 _ rfl
 clear hbx
 replace hE := hE.trans hb
 replace bO1_0 := Bx hb bO1_0
 replace bO5_0 := Bx hb bO5_0
 replace bO5_1 := Bx hb bO5_1
 replace bO9_0 := Bx hb bO9_0
 replace bO9_1 := Bx hb bO9_1
 have hs15 := hb.size
 clear hb
 have lt16 := bO13_0.lt
 refine pk (.bool false) ?_
 refine pl_nil ?_
 refine qw_then ?_
 refine cw_seq ?_
 refine cw_plain ?_
 refine pl_step rfl (by kernel_rfl) (by kernel_rfl) (by kernel_rfl) (sn_call (f := 10) (args := #[]) (by kernel_rfl) ((sane_c _ (hT.ext hE)).mono ?_))
 rintro e w17 ⟨rfl, hb⟩
 replace hE := hE.trans hb
 replace bO1_0 := Bx hb bO1_0
 replace bO5_0 := Bx hb bO5_0
 replace bO5_1 := Bx hb bO5_1
 replace bO9_0 := Bx hb bO9_0
 replace bO9_1 := Bx hb bO9_1
 replace bO13_0 := Bx hb bO13_0
 replace bO13_1 := Bx hb bO13_1
 replace bO13_2 := Bx hb bO13_2
 replace bO13_3 := Bx hb bO13_3
 have hs18 := hb.size
 clear hb
 refine ⟨_, rfl, ?_⟩
 refine pk (.bool true) ?_
 refine pl_nil ?_
 refine qw_then ?_
 refine cw_seq ?_
 refine cw_seq ?_
 refine cw_plain ?_
 refine pk (.bool true) ?_
 refine pk (.bool false) ?_
 refine pl_nil ?_
 refine qw_then ?_
 refine cw_clean [0, 1, 3, 9, 11, 12, 13, 15, 58] (ws' := [(0, .slice a0 n0 c0), (1, .slice a1 n1 c1), (3, .int .i64 (row : Int)), (9, .pointer (some ⟨O1, 0, none⟩)), (11, .pointer (some ⟨O5, 0, none⟩)), (12, .pointer (some ⟨O9, 0, none⟩)), (13, .pointer (some ⟨O13, 0, none⟩)), (15, .bool true), (58, .bool false)]) (by kernel_rfl) (fun L => ?_)
 refine cw_f (by kernel_rfl) ?_
 refine cw_skip ?_
 refine qw_then ?_
 refine cw_seq ?_
 refine cw_plain ?_
 refine pk (.slice a0 n0 c0) ?_
 refine pl_step rfl (by kernel_rfl) (by kernel_rfl) (by kernel_rfl) (sn_call (f := 11) (args := #[.slice a0 n0 c0]) (by kernel_rfl) ((Made_c _ _ Q0 hE hn0).mono ?_))
 rintro e w25 ⟨B19, LM20, rfl, hn21, hval22, hr23, v24, hb⟩
 replace hE := hE.trans hb
 replace bO1_0 := Bx hb bO1_0
 replace bO5_0 := Bx hb bO5_0
 replace bO5_1 := Bx hb bO5_1
 replace bO9_0 := Bx hb bO9_0
 replace bO9_1 := Bx hb bO9_1
 replace bO13_0 := Bx hb bO13_0
 replace bO13_1 := Bx hb bO13_1
 replace bO13_2 := Bx hb bO13_2
 replace bO13_3 := Bx hb bO13_3
 have hs26 := hb.size
 clear hb
 have lt27 := hr23.lt
 have lt28 := v24.lt
 refine ⟨_, rfl, ?_⟩
 refine pl_step rfl (by kernel_rfl) (by kernel_rfl) (by kernel_rfl) (sn_new (us := #[.slice none 0 0]) (t := 25) (by kernel_rfl) ?_)
 intro O29 X30 hO hOs hb hbx
 have hzO29 := hO; have hyO29 := hOs; clear hO hOs
 have bO29_0 : BoxAt X30 O29 0 (.slice none 0 0) := hbx 0 _ rfl
 clear hbx
 replace hE := hE.trans hb
 replace bO1_0 := Bx hb bO1_0
 replace bO5_0 := Bx hb bO5_0
 replace bO5_1 := Bx hb bO5_1
 replace bO9_0 := Bx hb bO9_0
 replace bO9_1 := Bx hb bO9_1
 replace bO13_0 := Bx hb bO13_0
 replace bO13_1 := Bx hb bO13_1
 replace bO13_2 := Bx hb bO13_2
 replace bO13_3 := Bx hb bO13_3
 replace hr23 := hr23.ext hb
 replace v24 := v24.ext hb
 have hs31 := hb.size
 clear hb
 have lt32 := bO29_0.lt
 refine pl_put rfl (by kernel_rfl) (by kernel_rfl) (sn_set (O := O29) (j := 0) (v := .slice (some ⟨B19, 0, none⟩) 24 24) (ex_store (p := .pointer (some ⟨O29, 0, none⟩)) (v := .agg #[.slice (some ⟨B19, 0, none⟩) 24 24]) rfl (by kernel_rfl) (by kernel_rfl) (st25 bO29_0.1 bO29_0.2)) bO29_0 ?_)
 intro X33 ho hv0 hk
 replace hE := ho.ext hE (tr (tr hs3 (tr hs7 (tr hs11 (tr hs15 (tr hs18 hs26))))) (Nat.le_of_eq hzO29))
 replace bO1_0 := ho.box (Nat.ne_of_gt (Nat.lt_of_lt_of_le lt4 (tr (tr hs7 (tr hs11 (tr hs15 (tr hs18 hs26)))) (Nat.le_of_eq hzO29)))) bO1_0
 replace bO5_0 := ho.box (Nat.ne_of_gt (Nat.lt_of_lt_of_le lt8 (tr (tr hs11 (tr hs15 (tr hs18 hs26))) (Nat.le_of_eq hzO29)))) bO5_0
 replace bO5_1 := ho.box (Nat.ne_of_gt (Nat.lt_of_lt_of_le lt8 (tr (tr hs11 (tr hs15 (tr hs18 hs26))) (Nat.le_of_eq hzO29)))) bO5_1
 replace bO9_0 := ho.box (Nat.ne_of_gt (Nat.lt_of_lt_of_le lt12 (tr (tr hs15 (tr hs18 hs26)) (Nat.le_of_eq hzO29)))) bO9_0
 replace bO9_1 := ho.box (Nat.ne_of_gt (Nat.lt_of_lt_of_le lt12 (tr (tr hs15 (tr hs18 hs26)) (Nat.le_of_eq hzO29)))) bO9_1
 replace bO13_0 := ho.box (Nat.ne_of_gt (Nat.lt_of_lt_of_le lt16 (tr (tr hs18 hs26) (Nat.le_of_eq hzO29)))) bO13_0
 replace bO13_1 := ho.box (Nat.ne_of_gt (Nat.lt_of_lt_of_le lt16 (tr (tr hs18 hs26) (Nat.le_of_eq hzO29)))) bO13_1
 replace bO13_2 := ho.box (Nat.ne_of_gt (Nat.lt_of_lt_of_le lt16 (tr (tr hs18 hs26) (Nat.le_of_eq hzO29)))) bO13_2
 replace bO13_3 := ho.box (Nat.ne_of_gt (Nat.lt_of_lt_of_le lt16 (tr (tr hs18 hs26) (Nat.le_of_eq hzO29)))) bO13_3
 replace hr23 := ho.rows (Nat.ne_of_gt (Nat.lt_of_lt_of_le lt27 (Nat.le_of_eq hzO29))) hr23
 replace v24 := ho.va (Nat.ne_of_gt (Nat.lt_of_lt_of_le lt27 (Nat.le_of_eq hzO29))) v24
 have hs34 : X30.heap.size ≤ X33.heap.size := Nat.le_of_eq ho.size.symm
 clear ho hk bO29_0
 have bO29_0 := hv0; clear hv0
 refine pl_nil ?_
 refine qw_then ?_
 refine cw_seq ?_
 refine cw_draw [(some 61, [16], []), (some 62, [61], [0]), (some 63, [13], []), (some 64, [63], [2]), (some 65, [64], [3]), (some 66, [3], []), (some 67, [62, 65], [1, 4, 0, 1, 2, 3, 4, 5]), (none, [67, 66], [6, 5, 4, 0, 1, 2, 3, 4, 5])] (fun w' => w'.cell? ⟨O29, 0, none⟩ = some (.slice (some ⟨B19, 0, none⟩) 24 24) ∧ w'.cell? ⟨O13, 0, none⟩ = some (.int .i64 (m0 : Int))) (by kernel_rfl) (by kernel_rfl) (by kernel_rfl) (by kernel_rfl) ((calm_then calm_body)) (⟨bO29_0.1, bO13_0.1⟩) (fun ops Q X35 hb hL hR hK => ?_)
 replace hE := hE.trans hb
 replace bO1_0 := Bx hb bO1_0
 replace bO5_0 := Bx hb bO5_0
 replace bO5_1 := Bx hb bO5_1
 replace bO9_0 := Bx hb bO9_0
 replace bO9_1 := Bx hb bO9_1
 replace bO13_0 := Bx hb bO13_0
 replace bO13_1 := Bx hb bO13_1
 replace bO13_2 := Bx hb bO13_2
 replace bO13_3 := Bx hb bO13_3
 replace hr23 := hr23.ext hb
 replace v24 := v24.ext hb
 replace bO29_0 := Bx hb bO29_0
 have hs36 := hb.size
 clear hb
 have hs9 := And.intro bO29_0.1 bO13_0.1
 refine wk 0 (.pointer (some ⟨O29, 0, none⟩)) hR hs9 ?_
 refine wl 1 (.slice (some ⟨B19, 0, none⟩) 24 24) hR hs9 rfl (fun w hS => ex_load rfl (by kernel_rfl) (ld23 (hS.1))) ?_
 refine wk 2 (.pointer (some ⟨O13, 0, none⟩)) hR hs9 ?_
 refine wl 3 (.int .i64 (m0 : Int)) hR hs9 rfl (fun w hS => ex_load rfl (by kernel_rfl) (ld3 (hS.2))) ?_
 refine wk 5 (.int .i64 (row : Int)) hR hs9 ?_
 refine wd_step 4 hR rfl (by kernel_rfl) (by kernel_rfl) (by kernel_rfl) (sn_call (f := 12) (args := #[.int .i64 (m0 : Int), .int .i64 24]) (by kernel_rfl) ((pickN_c _ 24 _ j0 (by omega) (by omega)).mono ?_))
 rintro e w' ⟨pk37, rfl, pk37l, -, rfl⟩
 refine ⟨_, rfl, ⟨bO29_0.1, bO13_0.1⟩, ?_⟩
 refine wl 6 (.pointer (some ⟨B19, pk37, none⟩)) hR (⟨bO29_0.1, bO13_0.1⟩) rfl (fun w _ => ex_index (p := .slice (some ⟨B19, 0, none⟩) 24 24) (i := .int .i64 ((pk37 : Nat) : Int)) rfl (by kernel_rfl) (by kernel_rfl) (ix23z (k := pk37) (by omega))) ?_
 refine wd_step 7 hR rfl (by kernel_rfl) (by kernel_rfl) (by kernel_rfl) (sn_row (g := B19) (y := pk37) (v := row) (ex_store (p := .pointer (some ⟨B19, pk37, none⟩)) (v := .int .i64 (row : Int)) rfl (by kernel_rfl) (by kernel_rfl) (st3 (hr23.cell (by omega)) (hr23.free (by omega)))) hr23 (by omega) ?_)
 intro X38 ho hv0
 replace hE := ho.ext hE (tr (tr hs3 (tr hs7 (tr hs11 (tr hs15 hs18)))) hn21)
 replace bO1_0 := ho.box (Nat.ne_of_gt (Nat.lt_of_lt_of_le lt4 (tr (tr hs7 (tr hs11 (tr hs15 hs18))) hn21))) bO1_0
 replace bO5_0 := ho.box (Nat.ne_of_gt (Nat.lt_of_lt_of_le lt8 (tr (tr hs11 (tr hs15 hs18)) hn21))) bO5_0
 replace bO5_1 := ho.box (Nat.ne_of_gt (Nat.lt_of_lt_of_le lt8 (tr (tr hs11 (tr hs15 hs18)) hn21))) bO5_1
 replace bO9_0 := ho.box (Nat.ne_of_gt (Nat.lt_of_lt_of_le lt12 (tr (tr hs15 hs18) hn21))) bO9_0
 replace bO9_1 := ho.box (Nat.ne_of_gt (Nat.lt_of_lt_of_le lt12 (tr (tr hs15 hs18) hn21))) bO9_1
 replace bO13_0 := ho.box (Nat.ne_of_gt (Nat.lt_of_lt_of_le lt16 (tr hs18 hn21))) bO13_0
 replace bO13_1 := ho.box (Nat.ne_of_gt (Nat.lt_of_lt_of_le lt16 (tr hs18 hn21))) bO13_1
 replace bO13_2 := ho.box (Nat.ne_of_gt (Nat.lt_of_lt_of_le lt16 (tr hs18 hn21))) bO13_2
 replace bO13_3 := ho.box (Nat.ne_of_gt (Nat.lt_of_lt_of_le lt16 (tr hs18 hn21))) bO13_3
 replace bO29_0 := ho.box (Nat.ne_of_lt (Nat.lt_of_lt_of_le lt27 (Nat.le_of_eq hzO29))) bO29_0
 have hs39 : X35.heap.size ≤ X38.heap.size := Nat.le_of_eq ho.size.symm
 clear ho hr23; have hr23 := hv0; clear hv0
 refine ⟨⟨bO29_0.1, bO13_0.1⟩, ?_⟩
 refine wd_end hL hR hK (by kernel_rfl) ?_
 refine qw_then ?_
 refine cw_clean [0, 1, 9, 11, 12, 13, 15, 16] (ws' := [(0, .slice a0 n0 c0), (1, .slice a1 n1 c1), (9, .pointer (some ⟨O1, 0, none⟩)), (11, .pointer (some ⟨O5, 0, none⟩)), (12, .pointer (some ⟨O9, 0, none⟩)), (13, .pointer (some ⟨O13, 0, none⟩)), (15, .bool true), (16, .pointer (some ⟨O29, 0, none⟩))]) (by kernel_rfl) (fun L => ?_)
 refine cw_seq ?_
 refine cw_draw [(some 68, [0], []), (some 69, [68], [0]), (some 70, [1], []), (some 71, [70], [2, 1]), (some 72, [16], []), (some 73, [9], []), (some 74, [73], [5, 3]), (some 75, [69, 71, 72, 74], [1, 3, 4, 6]), (some 17, [75], [7, 6, 0, 1, 2, 3, 4, 5, 6, 7])] (fun w' => w'.cell? ⟨O29, 0, none⟩ = some (.slice (some ⟨B19, 0, none⟩) 24 24) ∧ w'.cell? ⟨O1, 0, none⟩ = some (.slice aR lR.length kR)) (by kernel_rfl) (by kernel_rfl) (by kernel_rfl) (by kernel_rfl) ((calm_then calm_body)) (⟨bO29_0.1, bO1_0.1⟩) (fun ops Q X40 hb hL hR hK => ?_)
 replace hE := hE.trans hb
 replace bO1_0 := Bx hb bO1_0
 replace bO5_0 := Bx hb bO5_0
 replace bO5_1 := Bx hb bO5_1
 replace bO9_0 := Bx hb bO9_0
 replace bO9_1 := Bx hb bO9_1
 replace bO13_0 := Bx hb bO13_0
 replace bO13_1 := Bx hb bO13_1
 replace bO13_2 := Bx hb bO13_2
 replace bO13_3 := Bx hb bO13_3
 replace bO29_0 := Bx hb bO29_0
 replace hr23 := hr23.ext hb
 have hs41 := hb.size
 clear hb
 have hs9 := And.intro bO29_0.1 bO1_0.1
 refine wk 0 (.slice a0 n0 c0) hR hs9 ?_
 refine wk 2 (.slice a1 n1 c1) hR hs9 ?_
 refine wl 4 (.agg #[.slice (some ⟨B19, 0, none⟩) 24 24]) hR hs9 rfl (fun w hS => ex_load rfl (by kernel_rfl) (ld25 (hS.1))) ?_
 refine wl 5 (.agg #[.slice aR lR.length kR]) hR hs9 rfl (fun w hS => ex_load rfl (by kernel_rfl) (ld25 (hS.2))) ?_
 refine wd_step 1 hR rfl (by kernel_rfl) (by kernel_rfl) (by kernel_rfl) (sn_call (f := 11) (args := #[.slice a0 n0 c0]) (by kernel_rfl) ((Made_c _ _ Q0 hE hn0).mono ?_))
 rintro e w48 ⟨B42, LM43, rfl, hn44, hval45, hr46, v47, hb⟩
 replace hE := hE.trans hb
 replace bO1_0 := Bx hb bO1_0
 replace bO5_0 := Bx hb bO5_0
 replace bO5_1 := Bx hb bO5_1
 replace bO9_0 := Bx hb bO9_0
 replace bO9_1 := Bx hb bO9_1
 replace bO13_0 := Bx hb bO13_0
 replace bO13_1 := Bx hb bO13_1
 replace bO13_2 := Bx hb bO13_2
 replace bO13_3 := Bx hb bO13_3
 replace bO29_0 := Bx hb bO29_0
 replace hr23 := hr23.ext hb
 have hs49 := hb.size
 clear hb
 have lt50 := hr46.lt
 have lt51 := v47.lt
 refine ⟨_, rfl, ⟨bO29_0.1, bO1_0.1⟩, ?_⟩
 refine wd_step 3 hR rfl (by kernel_rfl) (by kernel_rfl) (by kernel_rfl) (sn_call (f := 11) (args := #[.slice a1 n1 c1]) (by kernel_rfl) ((Made_c _ _ Q1 hE hn1).mono ?_))
 rintro e w58 ⟨B52, LM53, rfl, hn54, hval55, hr56, v57, hb⟩
 replace hE := hE.trans hb
 replace bO1_0 := Bx hb bO1_0
 replace bO5_0 := Bx hb bO5_0
 replace bO5_1 := Bx hb bO5_1
 replace bO9_0 := Bx hb bO9_0
 replace bO9_1 := Bx hb bO9_1
 replace bO13_0 := Bx hb bO13_0
 replace bO13_1 := Bx hb bO13_1
 replace bO13_2 := Bx hb bO13_2
 replace bO13_3 := Bx hb bO13_3
 replace bO29_0 := Bx hb bO29_0
 replace hr23 := hr23.ext hb
 replace hr46 := hr46.ext hb
 replace v47 := v47.ext hb
 have hs59 := hb.size
 clear hb
 have lt60 := hr56.lt
 have lt61 := v57.lt
 refine ⟨_, rfl, ⟨bO29_0.1, bO1_0.1⟩, ?_⟩
 refine wd_step 6 hR rfl (by kernel_rfl) (by kernel_rfl) (by kernel_rfl) (sn_call (f := 13) (args := #[.agg #[.slice aR lR.length kR]]) (by kernel_rfl) ((few_c aR lR.length kR _ A5 A3 A4 A6).mono ?_))
 rintro e w62 ⟨rfl, hb⟩
 replace hE := hE.trans hb
 replace bO1_0 := Bx hb bO1_0
 replace bO5_0 := Bx hb bO5_0
 replace bO5_1 := Bx hb bO5_1
 replace bO9_0 := Bx hb bO9_0
 replace bO9_1 := Bx hb bO9_1
 replace bO13_0 := Bx hb bO13_0
 replace bO13_1 := Bx hb bO13_1
 replace bO13_2 := Bx hb bO13_2
 replace bO13_3 := Bx hb bO13_3
 replace bO29_0 := Bx hb bO29_0
 replace hr23 := hr23.ext hb
 replace hr46 := hr46.ext hb
 replace v47 := v47.ext hb
 replace hr56 := hr56.ext hb
 replace v57 := v57.ext hb
 have hs63 := hb.size
 clear hb
 refine ⟨_, rfl, ⟨bO29_0.1, bO1_0.1⟩, ?_⟩
 refine wd_step 7 hR rfl (by kernel_rfl) (by kernel_rfl) (by kernel_rfl) (sn_newS (us := #[.slice (some ⟨B42, 0, none⟩) 24 24, .slice (some ⟨B52, 0, none⟩) 24 24, .slice (some ⟨B19, 0, none⟩) 24 24, .slice aR ((min lR.length 25)) kR]) (t := 25) (k := 4) (c := 4) (by kernel_rfl) ?_)
 intro O64 X65 hO hOs hb hbx
 have hzO64 := hO; have hyO64 := hOs; clear hO hOs
 have bO64_0 : BoxAt X65 O64 0 (.slice (some ⟨B42, 0, none⟩) 24 24) := hbx 0 _ rfl
 have bO64_1 : BoxAt X65 O64 1 (.slice (some ⟨B52, 0, none⟩) 24 24) := hbx 1 _ rfl
 have bO64_2 : BoxAt X65 O64 2 (.slice (some ⟨B19, 0, none⟩) 24 24) := hbx 2 _ rfl
 have bO64_3 : BoxAt X65 O64 3 (.slice aR ((min lR.length 25)) kR) := hbx 3 _ rfl
 clear hbx
 replace hE := hE.trans hb
 replace bO1_0 := Bx hb bO1_0
 replace bO5_0 := Bx hb bO5_0
 replace bO5_1 := Bx hb bO5_1
 replace bO9_0 := Bx hb bO9_0
 replace bO9_1 := Bx hb bO9_1
 replace bO13_0 := Bx hb bO13_0
 replace bO13_1 := Bx hb bO13_1
 replace bO13_2 := Bx hb bO13_2
 replace bO13_3 := Bx hb bO13_3
 replace bO29_0 := Bx hb bO29_0
 replace hr23 := hr23.ext hb
 replace hr46 := hr46.ext hb
 replace v47 := v47.ext hb
 replace hr56 := hr56.ext hb
 replace v57 := v57.ext hb
 have hs66 := hb.size
 clear hb
 have lt67 := bO64_0.lt
 refine ⟨⟨bO29_0.1, bO1_0.1⟩, ?_⟩
 refine wk 8 (.slice (some ⟨O64, 0, none⟩) 4 4) hR (⟨bO29_0.1, bO1_0.1⟩) ?_
 refine wd_end hL hR hK (by kernel_rfl) ?_
 refine qw_then ?_
 refine cw_clean [11, 12, 13, 15, 17] (ws' := [(11, .pointer (some ⟨O5, 0, none⟩)), (12, .pointer (some ⟨O9, 0, none⟩)), (13, .pointer (some ⟨O13, 0, none⟩)), (15, .bool true), (17, .slice (some ⟨O64, 0, none⟩) 4 4)]) (by kernel_rfl) (fun L => ?_)
 refine cw_seq ?_
 refine cw_draw [(some 76, [11], []), (some 77, [12], []), (some 78, [11], []), (some 79, [78], [2]), (some 80, [11], []), (some 81, [80], [4]), (some 82, [79, 81], [3, 5]), (some 83, [82], [6]), (some 84, [12], []), (some 85, [84], [8]), (some 86, [12], []), (some 87, [86], [10]), (some 88, [85, 87], [9, 11]), (some 89, [88], [12, 7]), (some 90, [76, 77, 83, 89], [0, 1, 7, 13]), (some 18, [90], [14, 13, 0, 1, 2, 3, 4, 5, 6, 7, 8, 9, 10, 11, 12, 13, 14])] (fun w' => w'.cell? ⟨O5, 0, none⟩ = some (.int .i64 (ax : Int)) ∧ w'.cell? ⟨O5, 1, none⟩ = some (.int .i64 (ay : Int)) ∧ w'.cell? ⟨O9, 0, none⟩ = some (.int .i64 (bx : Int)) ∧ w'.cell? ⟨O9, 1, none⟩ = some (.int .i64 (bY : Int))) (by kernel_rfl) (by kernel_rfl) (by kernel_rfl) (by kernel_rfl) ((calm_then calm_body)) (⟨bO5_0.1, bO5_1.1, bO9_0.1, bO9_1.1⟩) (fun ops Q X68 hb hL hR hK => ?_)
 replace hE := hE.trans hb
 replace bO1_0 := Bx hb bO1_0
 replace bO5_0 := Bx hb bO5_0
 replace bO5_1 := Bx hb bO5_1
 replace bO9_0 := Bx hb bO9_0
 replace bO9_1 := Bx hb bO9_1
 replace bO13_0 := Bx hb bO13_0
 replace bO13_1 := Bx hb bO13_1
 replace bO13_2 := Bx hb bO13_2
 replace bO13_3 := Bx hb bO13_3
 replace bO29_0 := Bx hb bO29_0
 replace hr23 := hr23.ext hb
 replace hr46 := hr46.ext hb
 replace v47 := v47.ext hb
 replace hr56 := hr56.ext hb
 replace v57 := v57.ext hb
 replace bO64_0 := Bx hb bO64_0
 replace bO64_1 := Bx hb bO64_1
 replace bO64_2 := Bx hb bO64_2
 replace bO64_3 := Bx hb bO64_3
 have hs69 := hb.size
 clear hb
 have hs9 := And.intro bO5_0.1 (And.intro bO5_1.1 (And.intro bO9_0.1 bO9_1.1))
 refine wl 0 (.agg #[.int .i64 (ax : Int), .int .i64 (ay : Int)]) hR hs9 rfl (fun w hS => ex_load rfl (by kernel_rfl) (ld27 (hS.1) (hS.2.1))) ?_
 refine wl 1 (.agg #[.int .i64 (bx : Int), .int .i64 (bY : Int)]) hR hs9 rfl (fun w hS => ex_load rfl (by kernel_rfl) (ld27 (hS.2.2.1) (hS.2.2.2))) ?_
 refine wk 2 (.pointer (some ⟨O5, 0, none⟩)) hR hs9 ?_
 refine wl 3 (.int .i64 (ax : Int)) hR hs9 rfl (fun w hS => ex_load rfl (by kernel_rfl) (ld3 (hS.1))) ?_
 refine wk 4 (.pointer (some ⟨O5, 1, none⟩)) hR hs9 ?_
 refine wl 5 (.int .i64 (ay : Int)) hR hs9 rfl (fun w hS => ex_load rfl (by kernel_rfl) (ld3 (hS.2.1))) ?_
 refine wl 6 (.agg #[.int .i64 (ax : Int), .int .i64 (ay : Int)]) hR hs9 rfl (fun w _ => by kernel_rfl) ?_
 refine wk 8 (.pointer (some ⟨O9, 0, none⟩)) hR hs9 ?_
 refine wl 9 (.int .i64 (bx : Int)) hR hs9 rfl (fun w hS => ex_load rfl (by kernel_rfl) (ld3 (hS.2.2.1))) ?_
 refine wk 10 (.pointer (some ⟨O9, 1, none⟩)) hR hs9 ?_
 refine wl 11 (.int .i64 (bY : Int)) hR hs9 rfl (fun w hS => ex_load rfl (by kernel_rfl) (ld3 (hS.2.2.2))) ?_
 refine wl 12 (.agg #[.int .i64 (bx : Int), .int .i64 (bY : Int)]) hR hs9 rfl (fun w _ => by kernel_rfl) ?_
 refine wd_step 7 hR rfl (by kernel_rfl) (by kernel_rfl) (by kernel_rfl) (sn_call (f := 14) (args := #[.agg #[.int .i64 (ax : Int), .int .i64 (ay : Int)]]) (by kernel_rfl) ((rCell_c _ _ _ i4 i5).mono ?_))
 rintro e w70 ⟨rfl, hb⟩
 replace hE := hE.trans hb
 replace bO1_0 := Bx hb bO1_0
 replace bO5_0 := Bx hb bO5_0
 replace bO5_1 := Bx hb bO5_1
 replace bO9_0 := Bx hb bO9_0
 replace bO9_1 := Bx hb bO9_1
 replace bO13_0 := Bx hb bO13_0
 replace bO13_1 := Bx hb bO13_1
 replace bO13_2 := Bx hb bO13_2
 replace bO13_3 := Bx hb bO13_3
 replace bO29_0 := Bx hb bO29_0
 replace hr23 := hr23.ext hb
 replace hr46 := hr46.ext hb
 replace v47 := v47.ext hb
 replace hr56 := hr56.ext hb
 replace v57 := v57.ext hb
 replace bO64_0 := Bx hb bO64_0
 replace bO64_1 := Bx hb bO64_1
 replace bO64_2 := Bx hb bO64_2
 replace bO64_3 := Bx hb bO64_3
 have hs71 := hb.size
 clear hb
 refine ⟨_, rfl, ⟨bO5_0.1, bO5_1.1, bO9_0.1, bO9_1.1⟩, ?_⟩
 refine wd_step 13 hR rfl (by kernel_rfl) (by kernel_rfl) (by kernel_rfl) (sn_call (f := 14) (args := #[.agg #[.int .i64 (bx : Int), .int .i64 (bY : Int)]]) (by kernel_rfl) ((rCell_c _ _ _ i6 i7).mono ?_))
 rintro e w72 ⟨rfl, hb⟩
 replace hE := hE.trans hb
 replace bO1_0 := Bx hb bO1_0
 replace bO5_0 := Bx hb bO5_0
 replace bO5_1 := Bx hb bO5_1
 replace bO9_0 := Bx hb bO9_0
 replace bO9_1 := Bx hb bO9_1
 replace bO13_0 := Bx hb bO13_0
 replace bO13_1 := Bx hb bO13_1
 replace bO13_2 := Bx hb bO13_2
 replace bO13_3 := Bx hb bO13_3
 replace bO29_0 := Bx hb bO29_0
 replace hr23 := hr23.ext hb
 replace hr46 := hr46.ext hb
 replace v47 := v47.ext hb
 replace hr56 := hr56.ext hb
 replace v57 := v57.ext hb
 replace bO64_0 := Bx hb bO64_0
 replace bO64_1 := Bx hb bO64_1
 replace bO64_2 := Bx hb bO64_2
 replace bO64_3 := Bx hb bO64_3
 have hs73 := hb.size
 clear hb
 refine ⟨_, rfl, ⟨bO5_0.1, bO5_1.1, bO9_0.1, bO9_1.1⟩, ?_⟩
 refine wd_step 14 hR rfl (by kernel_rfl) (by kernel_rfl) (by kernel_rfl) (sn_newS (us := #[.int .i64 (ax : Int), .int .i64 (ay : Int), .int .i64 (bx : Int), .int .i64 (bY : Int), .int .i64 (pickF ax 48 : Int), .int .i64 (pickF ay 24 : Int), .int .i64 (pickF bx 48 : Int), .int .i64 (pickF bY 24 : Int)]) (t := 27) (k := 4) (c := 4) (by kernel_rfl) ?_)
 intro O74 X75 hO hOs hb hbx
 have hzO74 := hO; have hyO74 := hOs; clear hO hOs
 have bO74_0 : BoxAt X75 O74 0 (.int .i64 (ax : Int)) := hbx 0 _ rfl
 have bO74_1 : BoxAt X75 O74 1 (.int .i64 (ay : Int)) := hbx 1 _ rfl
 have bO74_2 : BoxAt X75 O74 2 (.int .i64 (bx : Int)) := hbx 2 _ rfl
 have bO74_3 : BoxAt X75 O74 3 (.int .i64 (bY : Int)) := hbx 3 _ rfl
 have bO74_4 : BoxAt X75 O74 4 (.int .i64 (pickF ax 48 : Int)) := hbx 4 _ rfl
 have bO74_5 : BoxAt X75 O74 5 (.int .i64 (pickF ay 24 : Int)) := hbx 5 _ rfl
 have bO74_6 : BoxAt X75 O74 6 (.int .i64 (pickF bx 48 : Int)) := hbx 6 _ rfl
 have bO74_7 : BoxAt X75 O74 7 (.int .i64 (pickF bY 24 : Int)) := hbx 7 _ rfl
 clear hbx
 replace hE := hE.trans hb
 replace bO1_0 := Bx hb bO1_0
 replace bO5_0 := Bx hb bO5_0
 replace bO5_1 := Bx hb bO5_1
 replace bO9_0 := Bx hb bO9_0
 replace bO9_1 := Bx hb bO9_1
 replace bO13_0 := Bx hb bO13_0
 replace bO13_1 := Bx hb bO13_1
 replace bO13_2 := Bx hb bO13_2
 replace bO13_3 := Bx hb bO13_3
 replace bO29_0 := Bx hb bO29_0
 replace hr23 := hr23.ext hb
 replace hr46 := hr46.ext hb
 replace v47 := v47.ext hb
 replace hr56 := hr56.ext hb
 replace v57 := v57.ext hb
 replace bO64_0 := Bx hb bO64_0
 replace bO64_1 := Bx hb bO64_1
 replace bO64_2 := Bx hb bO64_2
 replace bO64_3 := Bx hb bO64_3
 have hs76 := hb.size
 clear hb
 have lt77 := bO74_0.lt
 refine ⟨⟨bO5_0.1, bO5_1.1, bO9_0.1, bO9_1.1⟩, ?_⟩
 refine wk 15 (.slice (some ⟨O74, 0, none⟩) 4 4) hR (⟨bO5_0.1, bO5_1.1, bO9_0.1, bO9_1.1⟩) ?_
 refine wd_end hL hR hK (by kernel_rfl) ?_
 refine qw_then ?_
 refine cw_clean [13, 15, 17, 18] (ws' := [(13, .pointer (some ⟨O13, 0, none⟩)), (15, .bool true), (17, .slice (some ⟨O64, 0, none⟩) 4 4), (18, .slice (some ⟨O74, 0, none⟩) 4 4)]) (by kernel_rfl) (fun L => ?_)
 refine cw_seq ?_
 refine cw_seq ?_
 have hX78 : Ext X75 X75 := Ext.refl _
 have hAr : ∀ i, i < 4 → ∃ (a : Option Addr) (n c : Nat) (l : List Int) (v : Bool), X75.cell? ⟨O64, i, none⟩ = some (.slice a n c) ∧ AA X75 a l n v := fun i hi => by
  match i, hi with
  | 0, _ => exact ⟨_, _, _, _, _, bO64_0.1, v47.aa⟩
  | 1, _ => exact ⟨_, _, _, _, _, bO64_1.1, v57.aa⟩
  | 2, _ => exact ⟨_, _, _, _, _, bO64_2.1, hr23.aaL⟩
  | 3, _ => exact ⟨_, _, _, _, _, bO64_3.1, (few_at (A1.ext hE))⟩
  | _ + 4, h => omega
 have hCe : ∀ i, i < 4 → ∃ x y : Int, X75.cell? ⟨O74, i * 2, none⟩ = some (.int .i64 x) ∧ X75.cell? ⟨O74, i * 2 + 1, none⟩ = some (.int .i64 y) := fun i hi => by
  match i, hi with
  | 0, _ => exact ⟨_, _, bO74_0.1, bO74_1.1⟩
  | 1, _ => exact ⟨_, _, bO74_2.1, bO74_3.1⟩
  | 2, _ => exact ⟨_, _, bO74_4.1, bO74_5.1⟩
  | 3, _ => exact ⟨_, _, bO74_6.1, bO74_7.1⟩
  | _ + 4, h => omega
 refine cw_plain ?_
 refine pk (.int .i64 0) ?_
 refine pl_nil ?_
 refine qw_then ?_
 refine cw_block ?_
 refine cw_loop [13, 15, 17, 18, 19] (fun ws' wr m => ∃ ia : Nat, ws' = [(13, .pointer (some ⟨O13, 0, none⟩)), (15, .bool true), (17, .slice (some ⟨O64, 0, none⟩) 4 4), (18, .slice (some ⟨O74, 0, none⟩) 4 4), (19, .int .i64 (((ia : Nat) : Int) : Int))] ∧ m = 4 - ia ∧ X75.heap.size ≤ wr.heap.size ∧ Ext w wr ∧ Ext X75 wr ∧ ia ≤ 4) (ws0 := [(13, .pointer (some ⟨O13, 0, none⟩)), (15, .bool true), (17, .slice (some ⟨O64, 0, none⟩) 4 4), (18, .slice (some ⟨O74, 0, none⟩) 4 4), (19, .int .i64 0)]) (by kernel_rfl) _ ⟨0, rfl, rfl, Nat.le_refl _, hE, hX78, by omega⟩ ?_
 clear hE hX78
 rintro m81 L ws w80 ⟨ia, rfl, rfl, hs79, hE, hX78, hiia⟩
 by_cases hlt : ia < 4
 ·
  obtain ⟨xA, yA, cxA, cyA⟩ := hCe ia hlt
  refine cw_seq ?_
  refine cw_seq ?_
  refine cw_plain ?_
  refine pk (.int .i64 (((ia : Nat) : Int) : Int)) ?_
  refine pk (.slice (some ⟨O74, 0, none⟩) 4 4) ?_
  refine pk (.int .i64 4) ?_
  refine pl_take (.bool true) rfl (by kernel_rfl) (by kernel_rfl) (by kernel_rfl) (ev_dec (show _ = Result.ok (Next.value (Value.bool (decide ((((ia : Nat) : Int) : Int) < (4 : Int))))) _ from by kernel_rfl) (by omega)) ?_
  refine pl_nil ?_
  refine qw_then ?_
  refine cw_t (by kernel_rfl) ?_
  refine cw_skip ?_
  refine qw_then ?_
  refine cw_seq ?_
  refine cw_block ?_
  refine cw_seq ?_
  refine cw_seq ?_
  refine cw_draw [(some 97, [18], []), (some 98, [19], []), (some 99, [97, 98], [0, 1]), (some 100, [99], [2]), (some 101, [100], [3]), (some 102, [18], []), (some 103, [19], []), (some 104, [102, 103], [5, 6]), (some 105, [104], [7]), (some 106, [105], [8, 4]), (some 107, [101, 106], [4, 9])] (fun w' => w'.cell? ⟨O74, ia * 2, none⟩ = some (.int .i64 (xA : Int)) ∧ w'.cell? ⟨O74, ia * 2 + 1, none⟩ = some (.int .i64 (yA : Int))) (by kernel_rfl) (by kernel_rfl) (by kernel_rfl) (by kernel_rfl) ((calm_then (calm_then (calm_block (calm_then (calm_then (calm_block (calm_then calm_body)))))))) (⟨(hX78.cell cxA), (hX78.cell cyA)⟩) (fun ops Q X82 hb hL hR hK => ?_)
  replace hE := hE.trans hb
  replace hX78 := hX78.trans hb
  have hs83 := hb.size
  clear hb
  have hs9 := And.intro (hX78.cell cxA) (hX78.cell cyA)
  refine wk 0 (.slice (some ⟨O74, 0, none⟩) 4 4) hR hs9 ?_
  refine wk 1 (.int .i64 (((ia : Nat) : Int) : Int)) hR hs9 ?_
  refine wl 2 (.pointer (some ⟨O74, ia * 2, none⟩)) hR hs9 rfl (fun w _ => ex_index (p := .slice (some ⟨O74, 0, none⟩) 4 4) (i := .int .i64 ((ia : Nat) : Int)) rfl (by kernel_rfl) (by kernel_rfl) (ix36z (k := ia) (by omega))) ?_
  refine wl 3 (.agg #[.int .i64 (xA : Int), .int .i64 (yA : Int)]) hR hs9 rfl (fun w hS => ex_load rfl (by kernel_rfl) (ld27 (hS.1) (hS.2))) ?_
  refine wk 5 (.slice (some ⟨O74, 0, none⟩) 4 4) hR hs9 ?_
  refine wk 6 (.int .i64 (((ia : Nat) : Int) : Int)) hR hs9 ?_
  refine wl 7 (.pointer (some ⟨O74, ia * 2, none⟩)) hR hs9 rfl (fun w _ => ex_index (p := .slice (some ⟨O74, 0, none⟩) 4 4) (i := .int .i64 ((ia : Nat) : Int)) rfl (by kernel_rfl) (by kernel_rfl) (ix36z (k := ia) (by omega))) ?_
  refine wl 8 (.agg #[.int .i64 (xA : Int), .int .i64 (yA : Int)]) hR hs9 rfl (fun w hS => ex_load rfl (by kernel_rfl) (ld27 (hS.1) (hS.2))) ?_
  refine wd_step 4 hR rfl (by kernel_rfl) (by kernel_rfl) (by kernel_rfl) (sn_call (f := 15) (args := #[.agg #[.int .i64 (xA : Int), .int .i64 (yA : Int)]]) (by kernel_rfl) ((ValidCell_c _ _ _).mono ?_))
  rintro e w84 ⟨rfl, hb⟩
  replace hE := hE.trans hb
  replace hX78 := hX78.trans hb
  have hs85 := hb.size
  clear hb
  refine ⟨_, rfl, ⟨(hX78.cell cxA), (hX78.cell cyA)⟩, ?_⟩
  refine wd_step 9 hR rfl (by kernel_rfl) (by kernel_rfl) (by kernel_rfl) (sn_call (f := 16) (args := #[.agg #[.int .i64 (xA : Int), .int .i64 (yA : Int)]]) (by kernel_rfl) ((rValidCell_c _ _ _).mono ?_))
  rintro e w86 ⟨rfl, hb⟩
  replace hE := hE.trans hb
  replace hX78 := hX78.trans hb
  have hs87 := hb.size
  clear hb
  refine ⟨_, rfl, ⟨(hX78.cell cxA), (hX78.cell cyA)⟩, ?_⟩
  refine wl 10 (.bool false) hR (⟨(hX78.cell cxA), (hX78.cell cyA)⟩) rfl (fun w _ => ev_bool (show _ = Result.ok (Next.value (Value.bool ((Globe.vcB xA yA) != (Globe.vcB xA yA)))) _ from by kernel_rfl) (by simp)) ?_
  refine wd_end hL hR hK (by kernel_rfl) ?_
  refine qw_then ?_
  refine cw_clean [13, 15, 17, 18, 19, 107] (ws' := [(13, .pointer (some ⟨O13, 0, none⟩)), (15, .bool true), (17, .slice (some ⟨O64, 0, none⟩) 4 4), (18, .slice (some ⟨O74, 0, none⟩) 4 4), (19, .int .i64 (((ia : Nat) : Int) : Int)), (107, .bool false)]) (by kernel_rfl) (fun L => ?_)
  refine cw_f (by kernel_rfl) ?_
  refine cw_skip ?_
  refine qw_then ?_
  refine cw_seq ?_
  refine cw_seq ?_
  refine cw_plain ?_
  refine pk (.int .i64 0) ?_
  refine pl_nil ?_
  refine qw_then ?_
  refine cw_block ?_
  refine cw_loop [13, 15, 17, 18, 19, 20] (fun ws' wr m => ∃ ja : Nat, ws' = [(13, .pointer (some ⟨O13, 0, none⟩)), (15, .bool true), (17, .slice (some ⟨O64, 0, none⟩) 4 4), (18, .slice (some ⟨O74, 0, none⟩) 4 4), (19, .int .i64 (((ia : Nat) : Int) : Int)), (20, .int .i64 (((ja : Nat) : Int) : Int))] ∧ m = 4 - ja ∧ w86.heap.size ≤ wr.heap.size ∧ Ext w wr ∧ Ext X75 wr ∧ ja ≤ 4) (ws0 := [(13, .pointer (some ⟨O13, 0, none⟩)), (15, .bool true), (17, .slice (some ⟨O64, 0, none⟩) 4 4), (18, .slice (some ⟨O74, 0, none⟩) 4 4), (19, .int .i64 (((ia : Nat) : Int) : Int)), (20, .int .i64 0)]) (by kernel_rfl) _ ⟨0, rfl, rfl, Nat.le_refl _, hE, hX78, by omega⟩ ?_
  clear hE hX78
  rintro m90 L ws w89 ⟨ja, rfl, rfl, hs88, hE, hX78, hija⟩
  by_cases hlt : ja < 4
  ·
   obtain ⟨xB, yB, cxB, cyB⟩ := hCe ja hlt
   refine cw_seq ?_
   refine cw_seq ?_
   refine cw_plain ?_
   refine pk (.int .i64 (((ja : Nat) : Int) : Int)) ?_
   refine pk (.slice (some ⟨O74, 0, none⟩) 4 4) ?_
   refine pk (.int .i64 4) ?_
   refine pl_take (.bool true) rfl (by kernel_rfl) (by kernel_rfl) (by kernel_rfl) (ev_dec (show _ = Result.ok (Next.value (Value.bool (decide ((((ja : Nat) : Int) : Int) < (4 : Int))))) _ from by kernel_rfl) (by omega)) ?_
   refine pl_nil ?_
   refine qw_then ?_
   refine cw_t (by kernel_rfl) ?_
   refine cw_skip ?_
   refine qw_then ?_
   refine cw_seq ?_
   refine cw_block ?_
   refine cw_seq ?_
   refine cw_draw [(some 114, [18], []), (some 115, [19], []), (some 116, [114, 115], [0, 1]), (some 117, [116], [2]), (some 118, [18], []), (some 119, [20], []), (some 120, [118, 119], [4, 5]), (some 121, [120], [6]), (some 122, [117, 121], [3, 7]), (some 123, [18], []), (some 124, [19], []), (some 125, [123, 124], [9, 10]), (some 126, [125], [11]), (some 127, [18], []), (some 128, [20], []), (some 129, [127, 128], [13, 14]), (some 130, [129], [15]), (some 131, [126, 130], [12, 16, 8]), (some 132, [122, 131], [8, 17])] (fun w' => w'.cell? ⟨O74, ia * 2, none⟩ = some (.int .i64 (xA : Int)) ∧ w'.cell? ⟨O74, ia * 2 + 1, none⟩ = some (.int .i64 (yA : Int)) ∧ w'.cell? ⟨O74, ja * 2, none⟩ = some (.int .i64 (xB : Int)) ∧ w'.cell? ⟨O74, ja * 2 + 1, none⟩ = some (.int .i64 (yB : Int))) (by kernel_rfl) (by kernel_rfl) (by kernel_rfl) (by kernel_rfl) ((calm_then (calm_block (calm_then (calm_then (calm_block (calm_then (calm_block (calm_then (calm_then (calm_block (calm_then calm_body)))))))))))) (⟨(hX78.cell cxA), (hX78.cell cyA), (hX78.cell cxB), (hX78.cell cyB)⟩) (fun ops Q X91 hb hL hR hK => ?_)
   replace hE := hE.trans hb
   replace hX78 := hX78.trans hb
   have hs92 := hb.size
   clear hb
   have hs9 := And.intro (hX78.cell cxA) (And.intro (hX78.cell cyA) (And.intro (hX78.cell cxB) (hX78.cell cyB)))
   refine wk 0 (.slice (some ⟨O74, 0, none⟩) 4 4) hR hs9 ?_
   refine wk 1 (.int .i64 (((ia : Nat) : Int) : Int)) hR hs9 ?_
   refine wl 2 (.pointer (some ⟨O74, ia * 2, none⟩)) hR hs9 rfl (fun w _ => ex_index (p := .slice (some ⟨O74, 0, none⟩) 4 4) (i := .int .i64 ((ia : Nat) : Int)) rfl (by kernel_rfl) (by kernel_rfl) (ix36z (k := ia) (by omega))) ?_
   refine wl 3 (.agg #[.int .i64 (xA : Int), .int .i64 (yA : Int)]) hR hs9 rfl (fun w hS => ex_load rfl (by kernel_rfl) (ld27 (hS.1) (hS.2.1))) ?_
   refine wk 4 (.slice (some ⟨O74, 0, none⟩) 4 4) hR hs9 ?_
   refine wk 5 (.int .i64 (((ja : Nat) : Int) : Int)) hR hs9 ?_
   refine wl 6 (.pointer (some ⟨O74, ja * 2, none⟩)) hR hs9 rfl (fun w _ => ex_index (p := .slice (some ⟨O74, 0, none⟩) 4 4) (i := .int .i64 ((ja : Nat) : Int)) rfl (by kernel_rfl) (by kernel_rfl) (ix36z (k := ja) (by omega))) ?_
   refine wl 7 (.agg #[.int .i64 (xB : Int), .int .i64 (yB : Int)]) hR hs9 rfl (fun w hS => ex_load rfl (by kernel_rfl) (ld27 (hS.2.2.1) (hS.2.2.2))) ?_
   refine wk 9 (.slice (some ⟨O74, 0, none⟩) 4 4) hR hs9 ?_
   refine wk 10 (.int .i64 (((ia : Nat) : Int) : Int)) hR hs9 ?_
   refine wl 11 (.pointer (some ⟨O74, ia * 2, none⟩)) hR hs9 rfl (fun w _ => ex_index (p := .slice (some ⟨O74, 0, none⟩) 4 4) (i := .int .i64 ((ia : Nat) : Int)) rfl (by kernel_rfl) (by kernel_rfl) (ix36z (k := ia) (by omega))) ?_
   refine wl 12 (.agg #[.int .i64 (xA : Int), .int .i64 (yA : Int)]) hR hs9 rfl (fun w hS => ex_load rfl (by kernel_rfl) (ld27 (hS.1) (hS.2.1))) ?_
   refine wk 13 (.slice (some ⟨O74, 0, none⟩) 4 4) hR hs9 ?_
   refine wk 14 (.int .i64 (((ja : Nat) : Int) : Int)) hR hs9 ?_
   refine wl 15 (.pointer (some ⟨O74, ja * 2, none⟩)) hR hs9 rfl (fun w _ => ex_index (p := .slice (some ⟨O74, 0, none⟩) 4 4) (i := .int .i64 ((ja : Nat) : Int)) rfl (by kernel_rfl) (by kernel_rfl) (ix36z (k := ja) (by omega))) ?_
   refine wl 16 (.agg #[.int .i64 (xB : Int), .int .i64 (yB : Int)]) hR hs9 rfl (fun w hS => ex_load rfl (by kernel_rfl) (ld27 (hS.2.2.1) (hS.2.2.2))) ?_
   refine wd_step 8 hR rfl (by kernel_rfl) (by kernel_rfl) (by kernel_rfl) (sn_call (f := 17) (args := #[.agg #[.int .i64 (xA : Int), .int .i64 (yA : Int)], .agg #[.int .i64 (xB : Int), .int .i64 (yB : Int)]]) (by kernel_rfl) ((Near_c _ _ _ _ _).mono ?_))
   rintro e w93 ⟨rfl, hb⟩
   replace hE := hE.trans hb
   replace hX78 := hX78.trans hb
   have hs94 := hb.size
   clear hb
   refine ⟨_, rfl, ⟨(hX78.cell cxA), (hX78.cell cyA), (hX78.cell cxB), (hX78.cell cyB)⟩, ?_⟩
   refine wd_step 17 hR rfl (by kernel_rfl) (by kernel_rfl) (by kernel_rfl) (sn_call (f := 18) (args := #[.agg #[.int .i64 (xA : Int), .int .i64 (yA : Int)], .agg #[.int .i64 (xB : Int), .int .i64 (yB : Int)]]) (by kernel_rfl) ((rNear_c _ _ _ _ _).mono ?_))
   rintro e w95 ⟨rfl, hb⟩
   replace hE := hE.trans hb
   replace hX78 := hX78.trans hb
   have hs96 := hb.size
   clear hb
   refine ⟨_, rfl, ⟨(hX78.cell cxA), (hX78.cell cyA), (hX78.cell cxB), (hX78.cell cyB)⟩, ?_⟩
   refine wl 18 (.bool false) hR (⟨(hX78.cell cxA), (hX78.cell cyA), (hX78.cell cxB), (hX78.cell cyB)⟩) rfl (fun w _ => ev_nne (show _ = Result.ok (Next.value (Value.bool ((nearI xA yA xB yB : Int) != (nearI xA yA xB yB : Int)))) _ from by kernel_rfl) (rfl)) ?_
   refine wd_end hL hR hK (by kernel_rfl) ?_
   refine qw_then ?_
   refine cw_clean [13, 15, 17, 18, 19, 20, 132] (ws' := [(13, .pointer (some ⟨O13, 0, none⟩)), (15, .bool true), (17, .slice (some ⟨O64, 0, none⟩) 4 4), (18, .slice (some ⟨O74, 0, none⟩) 4 4), (19, .int .i64 (((ia : Nat) : Int) : Int)), (20, .int .i64 (((ja : Nat) : Int) : Int)), (132, .bool false)]) (by kernel_rfl) (fun L => ?_)
   refine cw_f (by kernel_rfl) ?_
   refine cw_skip ?_
   refine qw_block ?_
   refine qw_then ?_
   refine cw_plain ?_
   refine pk (.int .i64 (((ja : Nat) : Int) : Int)) ?_
   refine pl_take (.int .i64 (((ja + 1 : Nat) : Int) : Int)) rfl (by kernel_rfl) (by kernel_rfl) (by kernel_rfl) (ev_wrap (by kernel_rfl) (by omega) (by omega)) ?_
   refine pk (.int .i64 (((ja + 1 : Nat) : Int) : Int)) ?_
   refine pl_nil ?_
   refine qw_round [13, 15, 17, 18, 19, 20] (ws' := [(13, .pointer (some ⟨O13, 0, none⟩)), (15, .bool true), (17, .slice (some ⟨O64, 0, none⟩) 4 4), (18, .slice (some ⟨O74, 0, none⟩) 4 4), (19, .int .i64 (((ia : Nat) : Int) : Int)), (20, .int .i64 (((ja + 1 : Nat) : Int) : Int))]) (by kernel_rfl) _ ?_ ⟨(ja + 1), rfl, rfl, (tr hs88 (tr hs92 (tr hs94 hs96))), hE, hX78, by omega⟩
   omega
  ·
   refine cw_seq ?_
   refine cw_seq ?_
   refine cw_plain ?_
   refine pk (.int .i64 (((ja : Nat) : Int) : Int)) ?_
   refine pk (.slice (some ⟨O74, 0, none⟩) 4 4) ?_
   refine pk (.int .i64 4) ?_
   refine pl_take (.bool false) rfl (by kernel_rfl) (by kernel_rfl) (by kernel_rfl) (ev_ndec (show _ = Result.ok (Next.value (Value.bool (decide ((((ja : Nat) : Int) : Int) < (4 : Int))))) _ from by kernel_rfl) (by omega)) ?_
   refine pl_nil ?_
   refine qw_then ?_
   refine cw_f (by kernel_rfl) ?_
   refine cw_exit ?_
   refine qw_then_exit ?_
   refine qw_then_exit ?_
   refine qw_block_out ?_
   refine qw_then ?_
   refine cw_seq ?_
   refine cw_draw [(some 133, [13], []), (some 134, [133], [0]), (some 135, [13], []), (some 136, [135], [2]), (some 137, [134, 136], [1, 3]), (some 138, [13], []), (some 139, [138], [5]), (some 140, [139], [6]), (some 141, [140], [7]), (some 142, [13], []), (some 143, [142], [9]), (some 144, [143], [10, 7]), (some 145, [144], [11]), (some 146, [141, 145], [8, 12]), (some 147, [137, 146], [4, 13]), (some 148, [147], [14]), (some 149, [], [])] (fun w' => w'.cell? ⟨O13, 2, none⟩ = some (.int .i64 (m2 : Int)) ∧ w'.cell? ⟨O13, 3, none⟩ = some (.int .i64 (m3 : Int))) (by kernel_rfl) (by kernel_rfl) (by kernel_rfl) (by kernel_rfl) ((calm_then (calm_block (calm_then (calm_then (calm_block (calm_then calm_body))))))) (⟨(Bx hX78 bO13_2).1, (Bx hX78 bO13_3).1⟩) (fun ops Q X97 hb hL hR hK => ?_)
   replace hE := hE.trans hb
   replace hX78 := hX78.trans hb
   have hs98 := hb.size
   clear hb
   have hs9 := And.intro (BoxAt.ext hX78 bO13_2).1 (BoxAt.ext hX78 bO13_3).1
   refine wk 0 (.pointer (some ⟨O13, 2, none⟩)) hR hs9 ?_
   refine wl 1 (.int .i64 (m2 : Int)) hR hs9 rfl (fun w hS => ex_load rfl (by kernel_rfl) (ld3 (hS.1))) ?_
   refine wk 2 (.pointer (some ⟨O13, 3, none⟩)) hR hs9 ?_
   refine wl 3 (.int .i64 (m3 : Int)) hR hs9 rfl (fun w hS => ex_load rfl (by kernel_rfl) (ld3 (hS.2))) ?_
   refine wl 4 (.agg #[.int .i64 (m2 : Int), .int .i64 (m3 : Int)]) hR hs9 rfl (fun w _ => by kernel_rfl) ?_
   refine wk 5 (.pointer (some ⟨O13, 2, none⟩)) hR hs9 ?_
   refine wl 6 (.int .i64 (m2 : Int)) hR hs9 rfl (fun w hS => ex_load rfl (by kernel_rfl) (ld3 (hS.1))) ?_
   refine wk 9 (.pointer (some ⟨O13, 3, none⟩)) hR hs9 ?_
   refine wl 10 (.int .i64 (m3 : Int)) hR hs9 rfl (fun w hS => ex_load rfl (by kernel_rfl) (ld3 (hS.2))) ?_
   refine wk 16 (.int .i64 0) hR hs9 ?_
   refine wd_step 7 hR rfl (by kernel_rfl) (by kernel_rfl) (by kernel_rfl) (sn_call (f := 12) (args := #[.int .i64 (m2 : Int), .int .i64 48]) (by kernel_rfl) ((pickN_c _ 48 _ j2 (by omega) (by omega)).mono ?_))
   rintro e w' ⟨pk99, rfl, pk99l, -, rfl⟩
   refine ⟨_, rfl, ⟨(Bx hX78 bO13_2).1, (Bx hX78 bO13_3).1⟩, ?_⟩
   refine wl 8 (.int .i64 (((1 + pk99 : Nat) : Int) : Int)) hR (⟨(Bx hX78 bO13_2).1, (Bx hX78 bO13_3).1⟩) rfl (fun w _ => ev_wrap (by kernel_rfl) (by omega) (by omega)) ?_
   refine wd_step 11 hR rfl (by kernel_rfl) (by kernel_rfl) (by kernel_rfl) (sn_call (f := 12) (args := #[.int .i64 (m3 : Int), .int .i64 24]) (by kernel_rfl) ((pickN_c _ 24 _ j3 (by omega) (by omega)).mono ?_))
   rintro e w' ⟨pk100, rfl, pk100l, -, rfl⟩
   refine ⟨_, rfl, ⟨(Bx hX78 bO13_2).1, (Bx hX78 bO13_3).1⟩, ?_⟩
   have hs9 := And.intro (BoxAt.ext hX78 bO13_2).1 (BoxAt.ext hX78 bO13_3).1
   refine wl 12 (.int .i64 (((1 + pk100 : Nat) : Int) : Int)) hR hs9 rfl (fun w _ => ev_wrap (by kernel_rfl) (by omega) (by omega)) ?_
   refine wl 13 (.agg #[.int .i64 (((1 + pk99 : Nat) : Int) : Int), .int .i64 (((1 + pk100 : Nat) : Int) : Int)]) hR hs9 rfl (fun w _ => by kernel_rfl) ?_
   refine wd_step 14 hR rfl (by kernel_rfl) (by kernel_rfl) (by kernel_rfl) (sn_newS (us := #[.int .i64 (m2 : Int), .int .i64 (m3 : Int), .int .i64 (((1 + pk99 : Nat) : Int) : Int), .int .i64 (((1 + pk100 : Nat) : Int) : Int)]) (t := 35) (k := 2) (c := 2) (by kernel_rfl) ?_)
   intro O101 X102 hO hOs hb hbx
   have hzO101 := hO; have hyO101 := hOs; clear hO hOs
   have bO101_0 : BoxAt X102 O101 0 (.int .i64 (m2 : Int)) := hbx 0 _ rfl
   have bO101_1 : BoxAt X102 O101 1 (.int .i64 (m3 : Int)) := hbx 1 _ rfl
   have bO101_2 : BoxAt X102 O101 2 (.int .i64 (((1 + pk99 : Nat) : Int) : Int)) := hbx 2 _ rfl
   have bO101_3 : BoxAt X102 O101 3 (.int .i64 (((1 + pk100 : Nat) : Int) : Int)) := hbx 3 _ rfl
   clear hbx
   replace hE := hE.trans hb
   replace hX78 := hX78.trans hb
   have hs103 := hb.size
   clear hb
   have lt104 := bO101_0.lt
   refine ⟨⟨(Bx hX78 bO13_2).1, (Bx hX78 bO13_3).1⟩, ?_⟩
   refine wl 15 (.int .i64 2) hR (⟨(Bx hX78 bO13_2).1, (Bx hX78 bO13_3).1⟩) rfl (fun w _ => by kernel_rfl) ?_
   refine wd_end hL hR hK (by kernel_rfl) ?_
   refine qw_then ?_
   refine cw_clean [13, 15, 17, 18, 19, 147, 148, 149] (ws' := [(13, .pointer (some ⟨O13, 0, none⟩)), (15, .bool true), (17, .slice (some ⟨O64, 0, none⟩) 4 4), (18, .slice (some ⟨O74, 0, none⟩) 4 4), (19, .int .i64 (((ia : Nat) : Int) : Int)), (147, .slice (some ⟨O101, 0, none⟩) 2 2), (148, .int .i64 2), (149, .int .i64 0)]) (by kernel_rfl) (fun L => ?_)
   refine cw_block ?_
   have hX105 : Ext X102 X102 := Ext.refl _
   have hGC : ∀ k, k < 2 → ∃ u v : Int, X102.cell? ⟨O101, k * 2, none⟩ = some (.int .i64 u) ∧ X102.cell? ⟨O101, k * 2 + 1, none⟩ = some (.int .i64 v) := fun k hk => by
    match k, hk with
    | 0, _ => exact ⟨_, _, bO101_0.1, bO101_1.1⟩
    | 1, _ => exact ⟨_, _, bO101_2.1, bO101_3.1⟩
    | _ + 2, h => omega
   refine cw_loop [13, 15, 17, 18, 19, 147, 148, 149] (fun ws' wr m => ∃ ka : Nat, ws' = [(13, .pointer (some ⟨O13, 0, none⟩)), (15, .bool true), (17, .slice (some ⟨O64, 0, none⟩) 4 4), (18, .slice (some ⟨O74, 0, none⟩) 4 4), (19, .int .i64 (((ia : Nat) : Int) : Int)), (147, .slice (some ⟨O101, 0, none⟩) 2 2), (148, .int .i64 2), (149, .int .i64 (((ka : Nat) : Int) : Int))] ∧ m = 2 - ka ∧ X102.heap.size ≤ wr.heap.size ∧ Ext w wr ∧ Ext X75 wr ∧ Ext X102 wr ∧ ka ≤ 2) (ws0 := [(13, .pointer (some ⟨O13, 0, none⟩)), (15, .bool true), (17, .slice (some ⟨O64, 0, none⟩) 4 4), (18, .slice (some ⟨O74, 0, none⟩) 4 4), (19, .int .i64 (((ia : Nat) : Int) : Int)), (147, .slice (some ⟨O101, 0, none⟩) 2 2), (148, .int .i64 2), (149, .int .i64 0)]) (by kernel_rfl) _ ⟨0, rfl, rfl, Nat.le_refl _, hE, hX78, hX105, by omega⟩ ?_
   clear hE hX78 hX105
   rintro m108 L ws w107 ⟨ka, rfl, rfl, hs106, hE, hX78, hX105, hika⟩
   by_cases hlt : ka < 2
   ·
    obtain ⟨uC, zC, guC, gzC⟩ := hGC ka hlt
    refine cw_seq ?_
    refine cw_plain ?_
    refine pl_take (.bool true) rfl (by kernel_rfl) (by kernel_rfl) (by kernel_rfl) (ev_dec (show _ = Result.ok (Next.value (Value.bool (decide ((((ka : Nat) : Int) : Int) < (2 : Int))))) _ from by kernel_rfl) (by omega)) ?_
    refine pl_nil ?_
    refine qw_then ?_
    refine cw_seq ?_
    refine cw_t (by kernel_rfl) ?_
    refine cw_skip ?_
    refine qw_then ?_
    refine cw_seq ?_
    refine cw_block ?_
    refine cw_seq ?_
    refine cw_plain ?_
    refine pl_take (.pointer (some ⟨O101, ka * 2, none⟩)) rfl (by kernel_rfl) (by kernel_rfl) (by kernel_rfl) (ex_index (p := .slice (some ⟨O101, 0, none⟩) 2 2) (i := .int .i64 ((ka : Nat) : Int)) rfl (by kernel_rfl) (by kernel_rfl) (ix39z (k := ka) (by omega))) ?_
    refine pl_take (.agg #[.int .i64 (uC : Int), .int .i64 (zC : Int)]) rfl (by kernel_rfl) (by kernel_rfl) (by kernel_rfl) (ex_load rfl (by kernel_rfl) (ld35 ((hX105.cell guC)) ((hX105.cell gzC)))) ?_
    refine pl_step rfl (by kernel_rfl) (by kernel_rfl) (by kernel_rfl) (sn_new (us := #[.int .i64 0, .int .i64 0]) (t := 35) (by kernel_rfl) ?_)
    intro O109 X110 hO hOs hb hbx
    have hzO109 := hO; have hyO109 := hOs; clear hO hOs
    have bO109_0 : BoxAt X110 O109 0 (.int .i64 0) := hbx 0 _ rfl
    have bO109_1 : BoxAt X110 O109 1 (.int .i64 0) := hbx 1 _ rfl
    clear hbx
    replace hE := hE.trans hb
    replace hX78 := hX78.trans hb
    replace hX105 := hX105.trans hb
    have hs111 := hb.size
    clear hb
    have lt112 := bO109_0.lt
    refine pl_put rfl (by kernel_rfl) (by kernel_rfl) (sn_set2 (O := O109) (j := 0) (v := .int .i64 (uC : Int)) (v' := .int .i64 (zC : Int)) (ex_store (p := .pointer (some ⟨O109, 0, none⟩)) (v := .agg #[.int .i64 (uC : Int), .int .i64 (zC : Int)]) rfl (by kernel_rfl) (by kernel_rfl) (st35 bO109_0.1 bO109_0.2 bO109_1.1 bO109_1.2)) bO109_0 bO109_1 ?_)
    intro X113 ho hv0 hv1 hk
    replace hE := ho.ext hE (tr (tr hs3 (tr hs7 (tr hs11 (tr hs15 (tr hs18 (tr hs26 (tr hs31 (tr hs34 (tr hs36 (tr hs39 (tr hs41 (tr hs49 (tr hs59 (tr hs63 (tr hs66 (tr hs69 (tr hs71 (tr hs73 (tr hs76 (tr hs79 (tr hs83 (tr hs85 (tr hs87 (tr hs88 (tr hs98 (tr hs103 hs106)))))))))))))))))))))))))) (Nat.le_of_eq hzO109))
    replace hX78 := ho.ext hX78 (tr (tr hs79 (tr hs83 (tr hs85 (tr hs87 (tr hs88 (tr hs98 (tr hs103 hs106))))))) (Nat.le_of_eq hzO109))
    replace hX105 := ho.ext hX105 (tr hs106 (Nat.le_of_eq hzO109))
    have hs114 : X110.heap.size ≤ X113.heap.size := Nat.le_of_eq ho.size.symm
    clear ho hk bO109_0 bO109_1
    have bO109_0 := hv0; clear hv0
    have bO109_1 := hv1; clear hv1
    refine pl_nil ?_
    refine qw_then ?_
    refine cw_seq ?_
    have hX115 : Ext X113 X113 := Ext.refl _
    refine cw_join (fun ws' Y => ∃ ra118 : Option Addr, ∃ rk119 : Nat, ∃ O124 : Nat, ws' = [(13, .pointer (some ⟨O13, 0, none⟩)), (15, .bool true), (17, .slice (some ⟨O64, 0, none⟩) 4 4), (18, .slice (some ⟨O74, 0, none⟩) 4 4), (19, .int .i64 (((ia : Nat) : Int) : Int)), (22, .pointer (some ⟨O109, 0, none⟩)), (23, .pointer (some ⟨O124, 0, none⟩)), (24, .int .i64 (orE (boxB xA yA uC zC) 50 : Int)), (147, .slice (some ⟨O101, 0, none⟩) 2 2), (148, .int .i64 2), (149, .int .i64 (((ka : Nat) : Int) : Int))] ∧ Ext w Y ∧ Ext X75 Y ∧ Ext X102 Y ∧ Ext X113 Y ∧ IntsAt Y ra118 ((orL (boxB xA yA uC zC) (Globe.boxL (xA).toNat (yA).toNat (uC).toNat (zC).toNat))) ∧ BoxAt Y O124 0 (.slice ra118 ((orL (boxB xA yA uC zC) (Globe.boxL (xA).toNat (yA).toNat (uC).toNat (zC).toNat)).length) rk119) ∧ X113.heap.size ≤ Y.heap.size ∧ X113.heap.size ≤ O124) (fun hJ => ?_) ?_
    ·
     refine cw_draw [(some 154, [18], []), (some 155, [19], []), (some 156, [154, 155], [0, 1]), (some 157, [156], [2]), (some 158, [22], []), (some 159, [158], [4]), (some 160, [22], []), (some 161, [160], [6]), (some 162, [157, 159, 161], [3, 5, 7]), (some 153, [162], [8]), (some 163, [153], [9]), (some 164, [153], [9]), (some 23, [], []), (none, [23, 163], [12, 10, 8, 0, 1, 2, 3, 4, 5, 6, 7, 8, 9, 10, 12]), (some 24, [164], [11, 13, 0, 1, 2, 3, 4, 5, 6, 7, 8, 9, 10, 11, 12, 13])] (fun w' => w'.cell? ⟨O74, ia * 2, none⟩ = some (.int .i64 (xA : Int)) ∧ w'.cell? ⟨O74, ia * 2 + 1, none⟩ = some (.int .i64 (yA : Int)) ∧ w'.cell? ⟨O109, 0, none⟩ = some (.int .i64 (uC : Int)) ∧ w'.cell? ⟨O109, 1, none⟩ = some (.int .i64 (zC : Int))) (by kernel_rfl) (by kernel_rfl) (by kernel_rfl) (by kernel_rfl) ((calm_then (calm_block (calm_then (calm_then (calm_block (calm_block (calm_then (calm_then (calm_block (calm_then calm_body))))))))))) (⟨(hX78.cell cxA), (hX78.cell cyA), bO109_0.1, bO109_1.1⟩) (fun ops Q X116 hb hL hR hK => ?_)
     replace hE := hE.trans hb
     replace hX78 := hX78.trans hb
     replace hX105 := hX105.trans hb
     replace hX115 := hX115.trans hb
     have hs117 := hb.size
     clear hb
     have hs9 := And.intro (hX78.cell cxA) (And.intro (hX78.cell cyA) (And.intro (BoxAt.ext hX115 bO109_0).1 (BoxAt.ext hX115 bO109_1).1))
     refine wk 0 (.slice (some ⟨O74, 0, none⟩) 4 4) hR hs9 ?_
     refine wk 1 (.int .i64 (((ia : Nat) : Int) : Int)) hR hs9 ?_
     refine wl 2 (.pointer (some ⟨O74, ia * 2, none⟩)) hR hs9 rfl (fun w _ => ex_index (p := .slice (some ⟨O74, 0, none⟩) 4 4) (i := .int .i64 ((ia : Nat) : Int)) rfl (by kernel_rfl) (by kernel_rfl) (ix36z (k := ia) (by omega))) ?_
     refine wl 3 (.agg #[.int .i64 (xA : Int), .int .i64 (yA : Int)]) hR hs9 rfl (fun w hS => ex_load rfl (by kernel_rfl) (ld27 (hS.1) (hS.2.1))) ?_
     refine wk 4 (.pointer (some ⟨O109, 0, none⟩)) hR hs9 ?_
     refine wl 5 (.int .i64 (uC : Int)) hR hs9 rfl (fun w hS => ex_load rfl (by kernel_rfl) (ld3 (hS.2.2.1))) ?_
     refine wk 6 (.pointer (some ⟨O109, 1, none⟩)) hR hs9 ?_
     refine wl 7 (.int .i64 (zC : Int)) hR hs9 rfl (fun w hS => ex_load rfl (by kernel_rfl) (ld3 (hS.2.2.2))) ?_
     refine wd_two 8 12 hR rfl rfl (by kernel_rfl) (by kernel_rfl) (by kernel_rfl) (by kernel_rfl) ?_ ?_
     ·
      refine sn_call (f := 19) (args := #[.agg #[.int .i64 (xA : Int), .int .i64 (yA : Int)], .int .i64 (uC : Int), .int .i64 (zC : Int)]) (by kernel_rfl) ((Box_c _ _ _ _ _).mono ?_)
      rintro e w122 ⟨ra118, rk119, rfl, hR120, hb, hfr121⟩
      replace hE := hE.trans hb
      replace hX78 := hX78.trans hb
      replace hX105 := hX105.trans hb
      replace hX115 := hX115.trans hb
      have hs123 := hb.size
      clear hb
      refine ⟨_, rfl, ⟨(hX78.cell cxA), (hX78.cell cyA), (Bx hX115 bO109_0).1, (Bx hX115 bO109_1).1⟩, ?_⟩
      have hs9 := And.intro (hX78.cell cxA) (And.intro (hX78.cell cyA) (And.intro (BoxAt.ext hX115 bO109_0).1 (BoxAt.ext hX115 bO109_1).1))
      refine wk 9 (.tuple #[.agg #[.slice ra118 ((orL (boxB xA yA uC zC) (Globe.boxL (xA).toNat (yA).toNat (uC).toNat (zC).toNat)).length) rk119], .int .i64 (orE (boxB xA yA uC zC) 50 : Int)]) hR hs9 ?_
      refine wl 10 (.agg #[.slice ra118 ((orL (boxB xA yA uC zC) (Globe.boxL (xA).toNat (yA).toNat (uC).toNat (zC).toNat)).length) rk119]) hR hs9 rfl (fun w _ => by kernel_rfl) ?_
      refine wk 11 (.int .i64 (orE (boxB xA yA uC zC) 50 : Int)) hR hs9 ?_
      refine wd_step 12 hR rfl (by kernel_rfl) (by kernel_rfl) (by kernel_rfl) (sn_new (us := #[.slice none 0 0]) (t := 25) (by kernel_rfl) ?_)
      intro O124 X125 hO hOs hb hbx
      have hzO124 := hO; have hyO124 := hOs; clear hO hOs
      have bO124_0 : BoxAt X125 O124 0 (.slice none 0 0) := hbx 0 _ rfl
      clear hbx
      replace hE := hE.trans hb
      replace hX78 := hX78.trans hb
      replace hX105 := hX105.trans hb
      replace hX115 := hX115.trans hb
      replace hR120 := hR120.ext hb
      have hs126 := hb.size
      clear hb
      have lt127 := bO124_0.lt
      refine ⟨⟨(hX78.cell cxA), (hX78.cell cyA), (Bx hX115 bO109_0).1, (Bx hX115 bO109_1).1⟩, ?_⟩
      refine wd_step 13 hR rfl (by kernel_rfl) (by kernel_rfl) (by kernel_rfl) (sn_set (O := O124) (j := 0) (v := .slice ra118 ((orL (boxB xA yA uC zC) (Globe.boxL (xA).toNat (yA).toNat (uC).toNat (zC).toNat)).length) rk119) (ex_store (p := .pointer (some ⟨O124, 0, none⟩)) (v := .agg #[.slice ra118 ((orL (boxB xA yA uC zC) (Globe.boxL (xA).toNat (yA).toNat (uC).toNat (zC).toNat)).length) rk119]) rfl (by kernel_rfl) (by kernel_rfl) (st25 bO124_0.1 bO124_0.2)) bO124_0 ?_)
      intro X128 ho hv0 hk
      replace hE := ho.ext hE (tr (tr hs3 (tr hs7 (tr hs11 (tr hs15 (tr hs18 (tr hs26 (tr hs31 (tr hs34 (tr hs36 (tr hs39 (tr hs41 (tr hs49 (tr hs59 (tr hs63 (tr hs66 (tr hs69 (tr hs71 (tr hs73 (tr hs76 (tr hs79 (tr hs83 (tr hs85 (tr hs87 (tr hs88 (tr hs98 (tr hs103 (tr hs106 (tr hs111 (tr hs114 (tr hs117 hs123)))))))))))))))))))))))))))))) (Nat.le_of_eq hzO124))
      replace hX78 := ho.ext hX78 (tr (tr hs79 (tr hs83 (tr hs85 (tr hs87 (tr hs88 (tr hs98 (tr hs103 (tr hs106 (tr hs111 (tr hs114 (tr hs117 hs123))))))))))) (Nat.le_of_eq hzO124))
      replace hX105 := ho.ext hX105 (tr (tr hs106 (tr hs111 (tr hs114 (tr hs117 hs123)))) (Nat.le_of_eq hzO124))
      replace hX115 := ho.ext hX115 (tr (tr hs117 hs123) (Nat.le_of_eq hzO124))
      replace hR120 := ho.ints (fun ad e => Nat.ne_of_lt (Nat.lt_of_lt_of_le (hfr121 ad e).2 (Nat.le_of_eq hzO124))) hR120
      have hs129 : X125.heap.size ≤ X128.heap.size := Nat.le_of_eq ho.size.symm
      clear ho hk bO124_0
      have bO124_0 := hv0; clear hv0
      refine ⟨⟨(hX78.cell cxA), (hX78.cell cyA), (Bx hX115 bO109_0).1, (Bx hX115 bO109_1).1⟩, ?_⟩
      refine wk 14 (.int .i64 (orE (boxB xA yA uC zC) 50 : Int)) hR (⟨(hX78.cell cxA), (hX78.cell cyA), (Bx hX115 bO109_0).1, (Bx hX115 bO109_1).1⟩) ?_
      refine wd_end hL hR hK (by kernel_rfl) ?_
      exact qw_leaf hJ [13, 15, 17, 18, 19, 22, 23, 24, 147, 148, 149] (ws' := [(13, .pointer (some ⟨O13, 0, none⟩)), (15, .bool true), (17, .slice (some ⟨O64, 0, none⟩) 4 4), (18, .slice (some ⟨O74, 0, none⟩) 4 4), (19, .int .i64 (((ia : Nat) : Int) : Int)), (22, .pointer (some ⟨O109, 0, none⟩)), (23, .pointer (some ⟨O124, 0, none⟩)), (24, .int .i64 (orE (boxB xA yA uC zC) 50 : Int)), (147, .slice (some ⟨O101, 0, none⟩) 2 2), (148, .int .i64 2), (149, .int .i64 (((ka : Nat) : Int) : Int))]) (by kernel_rfl) ⟨ra118, rk119, O124, rfl, hE, hX78, hX105, hX115, hR120, bO124_0, (tr hs117 (tr hs123 (tr hs126 hs129))), (tr (tr hs117 hs123) (Nat.le_of_eq hzO124))⟩
     ·
      refine sn_new (us := #[.slice none 0 0]) (t := 25) (by kernel_rfl) ?_
      intro O130 X131 hO hOs hb hbx
      have hzO130 := hO; have hyO130 := hOs; clear hO hOs
      have bO130_0 : BoxAt X131 O130 0 (.slice none 0 0) := hbx 0 _ rfl
      clear hbx
      replace hE := hE.trans hb
      replace hX78 := hX78.trans hb
      replace hX105 := hX105.trans hb
      replace hX115 := hX115.trans hb
      have hs132 := hb.size
      clear hb
      have lt133 := bO130_0.lt
      refine ⟨⟨(hX78.cell cxA), (hX78.cell cyA), (Bx hX115 bO109_0).1, (Bx hX115 bO109_1).1⟩, ?_⟩
      refine wd_step 8 hR rfl (by kernel_rfl) (by kernel_rfl) (by kernel_rfl) (sn_call (f := 19) (args := #[.agg #[.int .i64 (xA : Int), .int .i64 (yA : Int)], .int .i64 (uC : Int), .int .i64 (zC : Int)]) (by kernel_rfl) ((Box_c _ _ _ _ _).mono ?_))
      rintro e w138 ⟨ra134, rk135, rfl, hR136, hb, hfr137⟩
      replace hE := hE.trans hb
      replace hX78 := hX78.trans hb
      replace hX105 := hX105.trans hb
      replace hX115 := hX115.trans hb
      replace bO130_0 := Bx hb bO130_0
      have hs139 := hb.size
      clear hb
      refine ⟨_, rfl, ⟨(hX78.cell cxA), (hX78.cell cyA), (Bx hX115 bO109_0).1, (Bx hX115 bO109_1).1⟩, ?_⟩
      have hs9 := And.intro (hX78.cell cxA) (And.intro (hX78.cell cyA) (And.intro (BoxAt.ext hX115 bO109_0).1 (BoxAt.ext hX115 bO109_1).1))
      refine wk 9 (.tuple #[.agg #[.slice ra134 ((orL (boxB xA yA uC zC) (Globe.boxL (xA).toNat (yA).toNat (uC).toNat (zC).toNat)).length) rk135], .int .i64 (orE (boxB xA yA uC zC) 50 : Int)]) hR hs9 ?_
      refine wl 10 (.agg #[.slice ra134 ((orL (boxB xA yA uC zC) (Globe.boxL (xA).toNat (yA).toNat (uC).toNat (zC).toNat)).length) rk135]) hR hs9 rfl (fun w _ => by kernel_rfl) ?_
      refine wk 11 (.int .i64 (orE (boxB xA yA uC zC) 50 : Int)) hR hs9 ?_
      refine wd_step 13 hR rfl (by kernel_rfl) (by kernel_rfl) (by kernel_rfl) (sn_set (O := O130) (j := 0) (v := .slice ra134 ((orL (boxB xA yA uC zC) (Globe.boxL (xA).toNat (yA).toNat (uC).toNat (zC).toNat)).length) rk135) (ex_store (p := .pointer (some ⟨O130, 0, none⟩)) (v := .agg #[.slice ra134 ((orL (boxB xA yA uC zC) (Globe.boxL (xA).toNat (yA).toNat (uC).toNat (zC).toNat)).length) rk135]) rfl (by kernel_rfl) (by kernel_rfl) (st25 bO130_0.1 bO130_0.2)) bO130_0 ?_)
      intro X140 ho hv0 hk
      replace hE := ho.ext hE (tr (tr hs3 (tr hs7 (tr hs11 (tr hs15 (tr hs18 (tr hs26 (tr hs31 (tr hs34 (tr hs36 (tr hs39 (tr hs41 (tr hs49 (tr hs59 (tr hs63 (tr hs66 (tr hs69 (tr hs71 (tr hs73 (tr hs76 (tr hs79 (tr hs83 (tr hs85 (tr hs87 (tr hs88 (tr hs98 (tr hs103 (tr hs106 (tr hs111 (tr hs114 hs117))))))))))))))))))))))))))))) (Nat.le_of_eq hzO130))
      replace hX78 := ho.ext hX78 (tr (tr hs79 (tr hs83 (tr hs85 (tr hs87 (tr hs88 (tr hs98 (tr hs103 (tr hs106 (tr hs111 (tr hs114 hs117)))))))))) (Nat.le_of_eq hzO130))
      replace hX105 := ho.ext hX105 (tr (tr hs106 (tr hs111 (tr hs114 hs117))) (Nat.le_of_eq hzO130))
      replace hX115 := ho.ext hX115 (tr hs117 (Nat.le_of_eq hzO130))
      replace hR136 := ho.ints (fun ad e => Nat.ne_of_gt (Nat.lt_of_lt_of_le lt133 (tr (Nat.le_refl _) (hfr137 ad e).1))) hR136
      have hs141 : w138.heap.size ≤ X140.heap.size := Nat.le_of_eq ho.size.symm
      clear ho hk bO130_0
      have bO130_0 := hv0; clear hv0
      refine ⟨⟨(hX78.cell cxA), (hX78.cell cyA), (Bx hX115 bO109_0).1, (Bx hX115 bO109_1).1⟩, ?_⟩
      refine wk 14 (.int .i64 (orE (boxB xA yA uC zC) 50 : Int)) hR (⟨(hX78.cell cxA), (hX78.cell cyA), (Bx hX115 bO109_0).1, (Bx hX115 bO109_1).1⟩) ?_
      refine wd_end hL hR hK (by kernel_rfl) ?_
      exact qw_leaf hJ [13, 15, 17, 18, 19, 22, 23, 24, 147, 148, 149] (ws' := [(13, .pointer (some ⟨O13, 0, none⟩)), (15, .bool true), (17, .slice (some ⟨O64, 0, none⟩) 4 4), (18, .slice (some ⟨O74, 0, none⟩) 4 4), (19, .int .i64 (((ia : Nat) : Int) : Int)), (22, .pointer (some ⟨O109, 0, none⟩)), (23, .pointer (some ⟨O130, 0, none⟩)), (24, .int .i64 (orE (boxB xA yA uC zC) 50 : Int)), (147, .slice (some ⟨O101, 0, none⟩) 2 2), (148, .int .i64 2), (149, .int .i64 (((ka : Nat) : Int) : Int))]) (by kernel_rfl) ⟨ra134, rk135, O130, rfl, hE, hX78, hX105, hX115, hR136, bO130_0, (tr hs117 (tr hs132 (tr hs139 hs141))), (tr hs117 (Nat.le_of_eq hzO130))⟩
    ·
     clear hE hX78 hX105 hX115
     rintro L ws Y142 ⟨ra118, rk119, O124, rfl, hE, hX78, hX105, hX115, hR120, bO124_0, hn143, hn144⟩
     have lt145 := bO124_0.lt
     refine qw_then ?_
     refine cw_seq ?_
     have hX146 : Ext Y142 Y142 := Ext.refl _
     refine cw_join (fun ws' Y => ∃ ra149 : Option Addr, ∃ rk150 : Nat, ∃ O155 : Nat, ws' = [(13, .pointer (some ⟨O13, 0, none⟩)), (15, .bool true), (17, .slice (some ⟨O64, 0, none⟩) 4 4), (18, .slice (some ⟨O74, 0, none⟩) 4 4), (19, .int .i64 (((ia : Nat) : Int) : Int)), (23, .pointer (some ⟨O124, 0, none⟩)), (24, .int .i64 (orE (boxB xA yA uC zC) 50 : Int)), (25, .pointer (some ⟨O155, 0, none⟩)), (26, .int .i64 (orE (boxB xA yA uC zC) 50 : Int)), (147, .slice (some ⟨O101, 0, none⟩) 2 2), (148, .int .i64 2), (149, .int .i64 (((ka : Nat) : Int) : Int))] ∧ Ext w Y ∧ Ext X75 Y ∧ Ext X102 Y ∧ Ext X113 Y ∧ Ext Y142 Y ∧ IntsAt Y ra149 ((orL (boxB xA yA uC zC) (Globe.boxL (xA).toNat (yA).toNat (uC).toNat (zC).toNat))) ∧ BoxAt Y O155 0 (.slice ra149 ((orL (boxB xA yA uC zC) (Globe.boxL (xA).toNat (yA).toNat (uC).toNat (zC).toNat)).length) rk150) ∧ Y142.heap.size ≤ Y.heap.size ∧ Y142.heap.size ≤ O155) (fun hJ => ?_) ?_
     ·
      refine cw_draw [(some 166, [18], []), (some 167, [19], []), (some 168, [166, 167], [0, 1]), (some 169, [168], [2]), (some 170, [22], []), (some 171, [170], [4]), (some 172, [22], []), (some 173, [172], [6]), (some 174, [169, 171, 173], [3, 5, 7]), (some 165, [174], [8]), (some 175, [165], [9]), (some 176, [165], [9]), (some 25, [], []), (none, [25, 175], [12, 10, 8, 0, 1, 2, 3, 4, 5, 6, 7, 8, 9, 10, 12]), (some 26, [176], [11, 13, 0, 1, 2, 3, 4, 5, 6, 7, 8, 9, 10, 11, 12, 13])] (fun w' => w'.cell? ⟨O74, ia * 2, none⟩ = some (.int .i64 (xA : Int)) ∧ w'.cell? ⟨O74, ia * 2 + 1, none⟩ = some (.int .i64 (yA : Int)) ∧ w'.cell? ⟨O109, 0, none⟩ = some (.int .i64 (uC : Int)) ∧ w'.cell? ⟨O109, 1, none⟩ = some (.int .i64 (zC : Int))) (by kernel_rfl) (by kernel_rfl) (by kernel_rfl) (by kernel_rfl) ((calm_then (calm_block (calm_then (calm_then (calm_block (calm_block (calm_then (calm_then (calm_block (calm_then calm_body))))))))))) (⟨(hX78.cell cxA), (hX78.cell cyA), (Bx hX115 bO109_0).1, (Bx hX115 bO109_1).1⟩) (fun ops Q X147 hb hL hR hK => ?_)
      replace hE := hE.trans hb
      replace hX78 := hX78.trans hb
      replace hX105 := hX105.trans hb
      replace hX115 := hX115.trans hb
      replace hX146 := hX146.trans hb
      have hs148 := hb.size
      clear hb
      have hs9 := And.intro (hX78.cell cxA) (And.intro (hX78.cell cyA) (And.intro (BoxAt.ext hX115 bO109_0).1 (BoxAt.ext hX115 bO109_1).1))
      refine wk 0 (.slice (some ⟨O74, 0, none⟩) 4 4) hR hs9 ?_
      refine wk 1 (.int .i64 (((ia : Nat) : Int) : Int)) hR hs9 ?_
      refine wl 2 (.pointer (some ⟨O74, ia * 2, none⟩)) hR hs9 rfl (fun w _ => ex_index (p := .slice (some ⟨O74, 0, none⟩) 4 4) (i := .int .i64 ((ia : Nat) : Int)) rfl (by kernel_rfl) (by kernel_rfl) (ix36z (k := ia) (by omega))) ?_
      refine wl 3 (.agg #[.int .i64 (xA : Int), .int .i64 (yA : Int)]) hR hs9 rfl (fun w hS => ex_load rfl (by kernel_rfl) (ld27 (hS.1) (hS.2.1))) ?_
      refine wk 4 (.pointer (some ⟨O109, 0, none⟩)) hR hs9 ?_
      refine wl 5 (.int .i64 (uC : Int)) hR hs9 rfl (fun w hS => ex_load rfl (by kernel_rfl) (ld3 (hS.2.2.1))) ?_
      refine wk 6 (.pointer (some ⟨O109, 1, none⟩)) hR hs9 ?_
      refine wl 7 (.int .i64 (zC : Int)) hR hs9 rfl (fun w hS => ex_load rfl (by kernel_rfl) (ld3 (hS.2.2.2))) ?_
      refine wd_two 8 12 hR rfl rfl (by kernel_rfl) (by kernel_rfl) (by kernel_rfl) (by kernel_rfl) ?_ ?_
      ·
       refine sn_call (f := 20) (args := #[.agg #[.int .i64 (xA : Int), .int .i64 (yA : Int)], .int .i64 (uC : Int), .int .i64 (zC : Int)]) (by kernel_rfl) ((rBox_c _ _ _ _ _).mono ?_)
       rintro e w153 ⟨ra149, rk150, rfl, hR151, hb, hfr152⟩
       replace hE := hE.trans hb
       replace hX78 := hX78.trans hb
       replace hX105 := hX105.trans hb
       replace hX115 := hX115.trans hb
       replace hX146 := hX146.trans hb
       have hs154 := hb.size
       clear hb
       refine ⟨_, rfl, ⟨(hX78.cell cxA), (hX78.cell cyA), (Bx hX115 bO109_0).1, (Bx hX115 bO109_1).1⟩, ?_⟩
       have hs9 := And.intro (hX78.cell cxA) (And.intro (hX78.cell cyA) (And.intro (BoxAt.ext hX115 bO109_0).1 (BoxAt.ext hX115 bO109_1).1))
       refine wk 9 (.tuple #[.agg #[.slice ra149 ((orL (boxB xA yA uC zC) (Globe.boxL (xA).toNat (yA).toNat (uC).toNat (zC).toNat)).length) rk150], .int .i64 (orE (boxB xA yA uC zC) 50 : Int)]) hR hs9 ?_
       refine wl 10 (.agg #[.slice ra149 ((orL (boxB xA yA uC zC) (Globe.boxL (xA).toNat (yA).toNat (uC).toNat (zC).toNat)).length) rk150]) hR hs9 rfl (fun w _ => by kernel_rfl) ?_
       refine wk 11 (.int .i64 (orE (boxB xA yA uC zC) 50 : Int)) hR hs9 ?_
       refine wd_step 12 hR rfl (by kernel_rfl) (by kernel_rfl) (by kernel_rfl) (sn_new (us := #[.slice none 0 0]) (t := 25) (by kernel_rfl) ?_)
       intro O155 X156 hO hOs hb hbx
       have hzO155 := hO; have hyO155 := hOs; clear hO hOs
       have bO155_0 : BoxAt X156 O155 0 (.slice none 0 0) := hbx 0 _ rfl
       clear hbx
       replace hE := hE.trans hb
       replace hX78 := hX78.trans hb
       replace hX105 := hX105.trans hb
       replace hX115 := hX115.trans hb
       replace hX146 := hX146.trans hb
       replace hR151 := hR151.ext hb
       have hs157 := hb.size
       clear hb
       have lt158 := bO155_0.lt
       refine ⟨⟨(hX78.cell cxA), (hX78.cell cyA), (Bx hX115 bO109_0).1, (Bx hX115 bO109_1).1⟩, ?_⟩
       refine wd_step 13 hR rfl (by kernel_rfl) (by kernel_rfl) (by kernel_rfl) (sn_set (O := O155) (j := 0) (v := .slice ra149 ((orL (boxB xA yA uC zC) (Globe.boxL (xA).toNat (yA).toNat (uC).toNat (zC).toNat)).length) rk150) (ex_store (p := .pointer (some ⟨O155, 0, none⟩)) (v := .agg #[.slice ra149 ((orL (boxB xA yA uC zC) (Globe.boxL (xA).toNat (yA).toNat (uC).toNat (zC).toNat)).length) rk150]) rfl (by kernel_rfl) (by kernel_rfl) (st25 bO155_0.1 bO155_0.2)) bO155_0 ?_)
       intro X159 ho hv0 hk
       replace hE := ho.ext hE (tr (tr hs3 (tr hs7 (tr hs11 (tr hs15 (tr hs18 (tr hs26 (tr hs31 (tr hs34 (tr hs36 (tr hs39 (tr hs41 (tr hs49 (tr hs59 (tr hs63 (tr hs66 (tr hs69 (tr hs71 (tr hs73 (tr hs76 (tr hs79 (tr hs83 (tr hs85 (tr hs87 (tr hs88 (tr hs98 (tr hs103 (tr hs106 (tr hs111 (tr hs114 (tr hn143 (tr hs148 hs154))))))))))))))))))))))))))))))) (Nat.le_of_eq hzO155))
       replace hX78 := ho.ext hX78 (tr (tr hs79 (tr hs83 (tr hs85 (tr hs87 (tr hs88 (tr hs98 (tr hs103 (tr hs106 (tr hs111 (tr hs114 (tr hn143 (tr hs148 hs154)))))))))))) (Nat.le_of_eq hzO155))
       replace hX105 := ho.ext hX105 (tr (tr hs106 (tr hs111 (tr hs114 (tr hn143 (tr hs148 hs154))))) (Nat.le_of_eq hzO155))
       replace hX115 := ho.ext hX115 (tr (tr hn143 (tr hs148 hs154)) (Nat.le_of_eq hzO155))
       replace hX146 := ho.ext hX146 (tr (tr hs148 hs154) (Nat.le_of_eq hzO155))
       replace hR151 := ho.ints (fun ad e => Nat.ne_of_lt (Nat.lt_of_lt_of_le (hfr152 ad e).2 (Nat.le_of_eq hzO155))) hR151
       have hs160 : X156.heap.size ≤ X159.heap.size := Nat.le_of_eq ho.size.symm
       clear ho hk bO155_0
       have bO155_0 := hv0; clear hv0
       refine ⟨⟨(hX78.cell cxA), (hX78.cell cyA), (Bx hX115 bO109_0).1, (Bx hX115 bO109_1).1⟩, ?_⟩
       refine wk 14 (.int .i64 (orE (boxB xA yA uC zC) 50 : Int)) hR (⟨(hX78.cell cxA), (hX78.cell cyA), (Bx hX115 bO109_0).1, (Bx hX115 bO109_1).1⟩) ?_
       refine wd_end hL hR hK (by kernel_rfl) ?_
       exact qw_leaf hJ [13, 15, 17, 18, 19, 23, 24, 25, 26, 147, 148, 149] (ws' := [(13, .pointer (some ⟨O13, 0, none⟩)), (15, .bool true), (17, .slice (some ⟨O64, 0, none⟩) 4 4), (18, .slice (some ⟨O74, 0, none⟩) 4 4), (19, .int .i64 (((ia : Nat) : Int) : Int)), (23, .pointer (some ⟨O124, 0, none⟩)), (24, .int .i64 (orE (boxB xA yA uC zC) 50 : Int)), (25, .pointer (some ⟨O155, 0, none⟩)), (26, .int .i64 (orE (boxB xA yA uC zC) 50 : Int)), (147, .slice (some ⟨O101, 0, none⟩) 2 2), (148, .int .i64 2), (149, .int .i64 (((ka : Nat) : Int) : Int))]) (by kernel_rfl) ⟨ra149, rk150, O155, rfl, hE, hX78, hX105, hX115, hX146, hR151, bO155_0, (tr hs148 (tr hs154 (tr hs157 hs160))), (tr (tr hs148 hs154) (Nat.le_of_eq hzO155))⟩
      ·
       refine sn_new (us := #[.slice none 0 0]) (t := 25) (by kernel_rfl) ?_
       intro O161 X162 hO hOs hb hbx
       have hzO161 := hO; have hyO161 := hOs; clear hO hOs
       have bO161_0 : BoxAt X162 O161 0 (.slice none 0 0) := hbx 0 _ rfl
       clear hbx
       replace hE := hE.trans hb
       replace hX78 := hX78.trans hb
       replace hX105 := hX105.trans hb
       replace hX115 := hX115.trans hb
       replace hX146 := hX146.trans hb
       have hs163 := hb.size
       clear hb
       have lt164 := bO161_0.lt
       refine ⟨⟨(hX78.cell cxA), (hX78.cell cyA), (Bx hX115 bO109_0).1, (Bx hX115 bO109_1).1⟩, ?_⟩
       refine wd_step 8 hR rfl (by kernel_rfl) (by kernel_rfl) (by kernel_rfl) (sn_call (f := 20) (args := #[.agg #[.int .i64 (xA : Int), .int .i64 (yA : Int)], .int .i64 (uC : Int), .int .i64 (zC : Int)]) (by kernel_rfl) ((rBox_c _ _ _ _ _).mono ?_))
       rintro e w169 ⟨ra165, rk166, rfl, hR167, hb, hfr168⟩
       replace hE := hE.trans hb
       replace hX78 := hX78.trans hb
       replace hX105 := hX105.trans hb
       replace hX115 := hX115.trans hb
       replace hX146 := hX146.trans hb
       replace bO161_0 := Bx hb bO161_0
       have hs170 := hb.size
       clear hb
       refine ⟨_, rfl, ⟨(hX78.cell cxA), (hX78.cell cyA), (Bx hX115 bO109_0).1, (Bx hX115 bO109_1).1⟩, ?_⟩
       have hs9 := And.intro (hX78.cell cxA) (And.intro (hX78.cell cyA) (And.intro (BoxAt.ext hX115 bO109_0).1 (BoxAt.ext hX115 bO109_1).1))
       refine wk 9 (.tuple #[.agg #[.slice ra165 ((orL (boxB xA yA uC zC) (Globe.boxL (xA).toNat (yA).toNat (uC).toNat (zC).toNat)).length) rk166], .int .i64 (orE (boxB xA yA uC zC) 50 : Int)]) hR hs9 ?_
       refine wl 10 (.agg #[.slice ra165 ((orL (boxB xA yA uC zC) (Globe.boxL (xA).toNat (yA).toNat (uC).toNat (zC).toNat)).length) rk166]) hR hs9 rfl (fun w _ => by kernel_rfl) ?_
       refine wk 11 (.int .i64 (orE (boxB xA yA uC zC) 50 : Int)) hR hs9 ?_
       refine wd_step 13 hR rfl (by kernel_rfl) (by kernel_rfl) (by kernel_rfl) (sn_set (O := O161) (j := 0) (v := .slice ra165 ((orL (boxB xA yA uC zC) (Globe.boxL (xA).toNat (yA).toNat (uC).toNat (zC).toNat)).length) rk166) (ex_store (p := .pointer (some ⟨O161, 0, none⟩)) (v := .agg #[.slice ra165 ((orL (boxB xA yA uC zC) (Globe.boxL (xA).toNat (yA).toNat (uC).toNat (zC).toNat)).length) rk166]) rfl (by kernel_rfl) (by kernel_rfl) (st25 bO161_0.1 bO161_0.2)) bO161_0 ?_)
       intro X171 ho hv0 hk
       replace hE := ho.ext hE (tr (tr hs3 (tr hs7 (tr hs11 (tr hs15 (tr hs18 (tr hs26 (tr hs31 (tr hs34 (tr hs36 (tr hs39 (tr hs41 (tr hs49 (tr hs59 (tr hs63 (tr hs66 (tr hs69 (tr hs71 (tr hs73 (tr hs76 (tr hs79 (tr hs83 (tr hs85 (tr hs87 (tr hs88 (tr hs98 (tr hs103 (tr hs106 (tr hs111 (tr hs114 (tr hn143 hs148)))))))))))))))))))))))))))))) (Nat.le_of_eq hzO161))
       replace hX78 := ho.ext hX78 (tr (tr hs79 (tr hs83 (tr hs85 (tr hs87 (tr hs88 (tr hs98 (tr hs103 (tr hs106 (tr hs111 (tr hs114 (tr hn143 hs148))))))))))) (Nat.le_of_eq hzO161))
       replace hX105 := ho.ext hX105 (tr (tr hs106 (tr hs111 (tr hs114 (tr hn143 hs148)))) (Nat.le_of_eq hzO161))
       replace hX115 := ho.ext hX115 (tr (tr hn143 hs148) (Nat.le_of_eq hzO161))
       replace hX146 := ho.ext hX146 (tr hs148 (Nat.le_of_eq hzO161))
       replace hR167 := ho.ints (fun ad e => Nat.ne_of_gt (Nat.lt_of_lt_of_le lt164 (tr (Nat.le_refl _) (hfr168 ad e).1))) hR167
       have hs172 : w169.heap.size ≤ X171.heap.size := Nat.le_of_eq ho.size.symm
       clear ho hk bO161_0
       have bO161_0 := hv0; clear hv0
       refine ⟨⟨(hX78.cell cxA), (hX78.cell cyA), (Bx hX115 bO109_0).1, (Bx hX115 bO109_1).1⟩, ?_⟩
       refine wk 14 (.int .i64 (orE (boxB xA yA uC zC) 50 : Int)) hR (⟨(hX78.cell cxA), (hX78.cell cyA), (Bx hX115 bO109_0).1, (Bx hX115 bO109_1).1⟩) ?_
       refine wd_end hL hR hK (by kernel_rfl) ?_
       exact qw_leaf hJ [13, 15, 17, 18, 19, 23, 24, 25, 26, 147, 148, 149] (ws' := [(13, .pointer (some ⟨O13, 0, none⟩)), (15, .bool true), (17, .slice (some ⟨O64, 0, none⟩) 4 4), (18, .slice (some ⟨O74, 0, none⟩) 4 4), (19, .int .i64 (((ia : Nat) : Int) : Int)), (23, .pointer (some ⟨O124, 0, none⟩)), (24, .int .i64 (orE (boxB xA yA uC zC) 50 : Int)), (25, .pointer (some ⟨O161, 0, none⟩)), (26, .int .i64 (orE (boxB xA yA uC zC) 50 : Int)), (147, .slice (some ⟨O101, 0, none⟩) 2 2), (148, .int .i64 2), (149, .int .i64 (((ka : Nat) : Int) : Int))]) (by kernel_rfl) ⟨ra165, rk166, O161, rfl, hE, hX78, hX105, hX115, hX146, hR167, bO161_0, (tr hs148 (tr hs163 (tr hs170 hs172))), (tr hs148 (Nat.le_of_eq hzO161))⟩
     ·
      clear hE hX78 hX105 hX115 hX146
      rintro L ws Y173 ⟨ra149, rk150, O155, rfl, hE, hX78, hX105, hX115, hX146, hR151, bO155_0, hn174, hn175⟩
      have lt176 := bO155_0.lt
      refine qw_then ?_
      refine cw_seq ?_
      have hX177 : Ext Y173 Y173 := Ext.refl _
      refine cw_plain ?_
      refine pk (.int .i64 (orE (boxB xA yA uC zC) 50 : Int)) ?_
      refine pk (.int .i64 (orE (boxB xA yA uC zC) 50 : Int)) ?_
      refine pl_take (.bool false) rfl (by kernel_rfl) (by kernel_rfl) (by kernel_rfl) (ev_nne (show _ = Result.ok (Next.value (Value.bool ((orE (boxB xA yA uC zC) 50 : Int) != (orE (boxB xA yA uC zC) 50 : Int)))) _ from by kernel_rfl) (rfl)) ?_
      refine pk (.bool false) ?_
      refine pl_take (.agg #[.slice ra118 ((orL (boxB xA yA uC zC) (Globe.boxL (xA).toNat (yA).toNat (uC).toNat (zC).toNat)).length) rk119]) rfl (by kernel_rfl) (by kernel_rfl) (by kernel_rfl) (ex_load rfl (by kernel_rfl) (ld25 ((Bx hX146 bO124_0).1))) ?_
      refine pl_take (.agg #[.slice ra149 ((orL (boxB xA yA uC zC) (Globe.boxL (xA).toNat (yA).toNat (uC).toNat (zC).toNat)).length) rk150]) rfl (by kernel_rfl) (by kernel_rfl) (by kernel_rfl) (ex_load rfl (by kernel_rfl) (ld25 (bO155_0.1))) ?_
      refine pl_step rfl (by kernel_rfl) (by kernel_rfl) (by kernel_rfl) (sn_call (f := 21) (args := #[.agg #[.slice ra118 ((orL (boxB xA yA uC zC) (Globe.boxL (xA).toNat (yA).toNat (uC).toNat (zC).toNat)).length) rk119], .agg #[.slice ra149 ((orL (boxB xA yA uC zC) (Globe.boxL (xA).toNat (yA).toNat (uC).toNat (zC).toNat)).length) rk150]]) (by kernel_rfl) ((rSame_t _ _ _ (aa_of hR120 (orL_len (by unfold Globe.boxL; rw [Globe.rowsF_len]; omega))) hX146 (aa_of hR151 (orL_len (by unfold Globe.boxL; rw [Globe.rowsF_len]; omega))) (Ext.refl _)).mono ?_))
      rintro e w178 ⟨rfl, hb⟩
      replace hE := hE.trans hb
      replace hX78 := hX78.trans hb
      replace hX105 := hX105.trans hb
      replace hX115 := hX115.trans hb
      replace hX146 := hX146.trans hb
      replace hX177 := hX177.trans hb
      have hs179 := hb.size
      clear hb
      refine ⟨_, rfl, ?_⟩
      refine pk (.bool false) ?_
      refine pk (.bool false) ?_
      refine pl_nil ?_
      refine qw_then ?_
      refine cw_clean [13, 15, 17, 18, 19, 147, 148, 149, 185] (ws' := [(13, .pointer (some ⟨O13, 0, none⟩)), (15, .bool true), (17, .slice (some ⟨O64, 0, none⟩) 4 4), (18, .slice (some ⟨O74, 0, none⟩) 4 4), (19, .int .i64 (((ia : Nat) : Int) : Int)), (147, .slice (some ⟨O101, 0, none⟩) 2 2), (148, .int .i64 2), (149, .int .i64 (((ka : Nat) : Int) : Int)), (185, .bool false)]) (by kernel_rfl) (fun L => ?_)
      refine cw_f (by kernel_rfl) ?_
      refine cw_skip ?_
      refine qw_block ?_
      refine qw_then ?_
      refine cw_plain ?_
      refine pl_take (.int .i64 (((ka + 1 : Nat) : Int) : Int)) rfl (by kernel_rfl) (by kernel_rfl) (by kernel_rfl) (ev_wrap (by kernel_rfl) (by omega) (by omega)) ?_
      refine pk (.int .i64 (((ka + 1 : Nat) : Int) : Int)) ?_
      refine pl_nil ?_
      refine qw_round [13, 15, 17, 18, 19, 147, 148, 149] (ws' := [(13, .pointer (some ⟨O13, 0, none⟩)), (15, .bool true), (17, .slice (some ⟨O64, 0, none⟩) 4 4), (18, .slice (some ⟨O74, 0, none⟩) 4 4), (19, .int .i64 (((ia : Nat) : Int) : Int)), (147, .slice (some ⟨O101, 0, none⟩) 2 2), (148, .int .i64 2), (149, .int .i64 (((ka + 1 : Nat) : Int) : Int))]) (by kernel_rfl) _ ?_ ⟨(ka + 1), rfl, rfl, (tr hs106 (tr hs111 (tr hs114 (tr hn143 (tr hn174 hs179))))), hE, hX78, hX105, by omega⟩
      omega
   ·
    refine cw_seq ?_
    refine cw_plain ?_
    refine pl_take (.bool false) rfl (by kernel_rfl) (by kernel_rfl) (by kernel_rfl) (ev_ndec (show _ = Result.ok (Next.value (Value.bool (decide ((((ka : Nat) : Int) : Int) < (2 : Int))))) _ from by kernel_rfl) (by omega)) ?_
    refine pl_nil ?_
    refine qw_then ?_
    refine cw_seq ?_
    refine cw_f (by kernel_rfl) ?_
    refine cw_exit ?_
    refine qw_then_exit ?_
    refine qw_then_exit ?_
    refine qw_block_out ?_
    refine qw_block ?_
    refine qw_then ?_
    refine cw_plain ?_
    refine pk (.int .i64 (((ia : Nat) : Int) : Int)) ?_
    refine pl_take (.int .i64 (((ia + 1 : Nat) : Int) : Int)) rfl (by kernel_rfl) (by kernel_rfl) (by kernel_rfl) (ev_wrap (by kernel_rfl) (by omega) (by omega)) ?_
    refine pk (.int .i64 (((ia + 1 : Nat) : Int) : Int)) ?_
    refine pl_nil ?_
    refine qw_round [13, 15, 17, 18, 19] (ws' := [(13, .pointer (some ⟨O13, 0, none⟩)), (15, .bool true), (17, .slice (some ⟨O64, 0, none⟩) 4 4), (18, .slice (some ⟨O74, 0, none⟩) 4 4), (19, .int .i64 (((ia + 1 : Nat) : Int) : Int))]) (by kernel_rfl) _ ?_ ⟨(ia + 1), rfl, rfl, (tr hs79 (tr hs83 (tr hs85 (tr hs87 (tr hs88 (tr hs98 (tr hs103 hs106))))))), hE, hX78, by omega⟩
    omega
 ·
  refine cw_seq ?_
  refine cw_seq ?_
  refine cw_plain ?_
  refine pk (.int .i64 (((ia : Nat) : Int) : Int)) ?_
  refine pk (.slice (some ⟨O74, 0, none⟩) 4 4) ?_
  refine pk (.int .i64 4) ?_
  refine pl_take (.bool false) rfl (by kernel_rfl) (by kernel_rfl) (by kernel_rfl) (ev_ndec (show _ = Result.ok (Next.value (Value.bool (decide ((((ia : Nat) : Int) : Int) < (4 : Int))))) _ from by kernel_rfl) (by omega)) ?_
  refine pl_nil ?_
  refine qw_then ?_
  refine cw_f (by kernel_rfl) ?_
  refine cw_exit ?_
  refine qw_then_exit ?_
  refine qw_then_exit ?_
  refine qw_block_out ?_
  refine qw_then ?_
  refine cw_seq ?_
  refine cw_seq ?_
  refine cw_plain ?_
  refine pk (.int .i64 0) ?_
  refine pl_nil ?_
  refine qw_then ?_
  refine cw_block ?_
  refine cw_loop [13, 15, 17, 18, 27] (fun ws' wr m => ∃ ib : Nat, ws' = [(13, .pointer (some ⟨O13, 0, none⟩)), (15, .bool true), (17, .slice (some ⟨O64, 0, none⟩) 4 4), (18, .slice (some ⟨O74, 0, none⟩) 4 4), (27, .int .i64 (((ib : Nat) : Int) : Int))] ∧ m = 4 - ib ∧ w80.heap.size ≤ wr.heap.size ∧ Ext w wr ∧ Ext X75 wr ∧ ib ≤ 4) (ws0 := [(13, .pointer (some ⟨O13, 0, none⟩)), (15, .bool true), (17, .slice (some ⟨O64, 0, none⟩) 4 4), (18, .slice (some ⟨O74, 0, none⟩) 4 4), (27, .int .i64 0)]) (by kernel_rfl) _ ⟨0, rfl, rfl, Nat.le_refl _, hE, hX78, by omega⟩ ?_
  clear hE hX78
  rintro m182 L ws w181 ⟨ib, rfl, rfl, hs180, hE, hX78, hiib⟩
  by_cases hlt : ib < 4
  ·
   obtain ⟨aD, nD, cD, lD, vD, ceD, aaD⟩ := hAr ib hlt
   have bnD : lD.length ≤ 140737488355328 := by rw [aaD.2.1]; exact aaD.2.2.1
   refine cw_seq ?_
   refine cw_seq ?_
   refine cw_plain ?_
   refine pk (.int .i64 (((ib : Nat) : Int) : Int)) ?_
   refine pk (.slice (some ⟨O64, 0, none⟩) 4 4) ?_
   refine pk (.int .i64 4) ?_
   refine pl_take (.bool true) rfl (by kernel_rfl) (by kernel_rfl) (by kernel_rfl) (ev_dec (show _ = Result.ok (Next.value (Value.bool (decide ((((ib : Nat) : Int) : Int) < (4 : Int))))) _ from by kernel_rfl) (by omega)) ?_
   refine pl_nil ?_
   refine qw_then ?_
   refine cw_t (by kernel_rfl) ?_
   refine cw_skip ?_
   refine qw_then ?_
   refine cw_seq ?_
   refine cw_block ?_
   refine cw_seq ?_
   refine cw_seq ?_
   refine cw_draw [(some 193, [17], []), (some 194, [27], []), (some 195, [193, 194], [0, 1]), (some 196, [195], [2]), (some 197, [196], [3]), (some 198, [17], []), (some 199, [27], []), (some 200, [198, 199], [5, 6]), (some 201, [200], [7]), (some 202, [201], [8, 4]), (some 203, [197, 202], [4, 9]), (some 204, [203], [10, 9]), (some 205, [17, 204], [11]), (some 206, [27, 204], [11]), (some 207, [205, 206, 204], [12, 13, 11]), (some 208, [207, 204], [14, 11]), (some 209, [208, 204], [15, 11, 11]), (some 210, [17, 204], [11]), (some 211, [27, 204], [11]), (some 212, [210, 211, 204], [17, 18, 11]), (some 213, [212, 204], [19, 11]), (some 214, [213, 204], [20, 16, 11]), (some 215, [209, 214, 204], [16, 21, 11]), (some 216, [204, 215], [11, 22]), (some 217, [216], [23, 21]), (some 218, [17, 217], [24]), (some 219, [27, 217], [24]), (some 220, [218, 219, 217], [25, 26, 24]), (some 221, [220, 217], [27, 24]), (some 222, [221, 217], [28, 24, 24]), (some 223, [17, 217], [24]), (some 224, [27, 217], [24]), (some 225, [223, 224, 217], [30, 31, 24]), (some 226, [225, 217], [32, 24]), (some 227, [226, 217], [33, 29, 24]), (some 228, [222, 227, 217], [29, 34, 34, 24]), (some 229, [228, 217], [35, 24]), (some 230, [217, 229], [24, 36])] (fun w' => w'.cell? ⟨O64, ib, none⟩ = some (.slice aD nD cD)) (by kernel_rfl) (by kernel_rfl) (by kernel_rfl) (by kernel_rfl) ((calm_then (calm_then (calm_block (calm_then (calm_then (calm_block (calm_then calm_body)))))))) ((hX78.cell ceD)) (fun ops Q X183 hb hL hR hK => ?_)
   replace hE := hE.trans hb
   replace hX78 := hX78.trans hb
   have hs184 := hb.size
   clear hb
   refine wk 0 (.slice (some ⟨O64, 0, none⟩) 4 4) hR ((hX78.cell ceD)) ?_
   refine wk 1 (.int .i64 (((ib : Nat) : Int) : Int)) hR ((hX78.cell ceD)) ?_
   refine wl 2 (.pointer (some ⟨O64, ib, none⟩)) hR ((hX78.cell ceD)) rfl (fun w _ => ex_index (p := .slice (some ⟨O64, 0, none⟩) 4 4) (i := .int .i64 ((ib : Nat) : Int)) rfl (by kernel_rfl) (by kernel_rfl) (ix33z (k := ib) (by omega))) ?_
   refine wl 3 (.agg #[.slice aD nD cD]) hR ((hX78.cell ceD)) rfl (fun w hS => ex_load rfl (by kernel_rfl) (ld25 (hS))) ?_
   refine wk 5 (.slice (some ⟨O64, 0, none⟩) 4 4) hR ((hX78.cell ceD)) ?_
   refine wk 6 (.int .i64 (((ib : Nat) : Int) : Int)) hR ((hX78.cell ceD)) ?_
   refine wl 7 (.pointer (some ⟨O64, ib, none⟩)) hR ((hX78.cell ceD)) rfl (fun w _ => ex_index (p := .slice (some ⟨O64, 0, none⟩) 4 4) (i := .int .i64 ((ib : Nat) : Int)) rfl (by kernel_rfl) (by kernel_rfl) (ix33z (k := ib) (by omega))) ?_
   refine wl 8 (.agg #[.slice aD nD cD]) hR ((hX78.cell ceD)) rfl (fun w hS => ex_load rfl (by kernel_rfl) (ld25 (hS))) ?_
   refine wd_step 4 hR rfl (by kernel_rfl) (by kernel_rfl) (by kernel_rfl) (sn_call (f := 22) (args := #[.agg #[.slice aD nD cD]]) (by kernel_rfl) ((Valid_e _ _ aaD hX78).mono ?_))
   rintro e w185 ⟨rfl, hb⟩
   replace hE := hE.trans hb
   replace hX78 := hX78.trans hb
   have hs186 := hb.size
   clear hb
   refine ⟨_, rfl, (hX78.cell ceD), ?_⟩
   refine wd_step 9 hR rfl (by kernel_rfl) (by kernel_rfl) (by kernel_rfl) (sn_call (f := 23) (args := #[.agg #[.slice aD nD cD]]) (by kernel_rfl) ((rValid_c _ _ aaD hX78).mono ?_))
   rintro e w187 ⟨rfl, hb⟩
   replace hE := hE.trans hb
   replace hX78 := hX78.trans hb
   have hs188 := hb.size
   clear hb
   refine ⟨_, rfl, (hX78.cell ceD), ?_⟩
   refine wl 10 (.bool false) hR ((hX78.cell ceD)) rfl (fun w _ => ev_bool (show _ = Result.ok (Next.value (Value.bool (vD != vD))) _ from by kernel_rfl) (by simp)) ?_
   refine wk 11 (.bool false) hR ((hX78.cell ceD)) ?_
   refine wk 12 (.slice (some ⟨O64, 0, none⟩) 4 4) hR ((hX78.cell ceD)) ?_
   refine wk 13 (.int .i64 (((ib : Nat) : Int) : Int)) hR ((hX78.cell ceD)) ?_
   refine wl 14 (.pointer (some ⟨O64, ib, none⟩)) hR ((hX78.cell ceD)) rfl (fun w _ => ex_index (p := .slice (some ⟨O64, 0, none⟩) 4 4) (i := .int .i64 ((ib : Nat) : Int)) rfl (by kernel_rfl) (by kernel_rfl) (ix33z (k := ib) (by omega))) ?_
   refine wl 15 (.agg #[.slice aD nD cD]) hR ((hX78.cell ceD)) rfl (fun w hS => ex_load rfl (by kernel_rfl) (ld25 (hS))) ?_
   refine wk 17 (.slice (some ⟨O64, 0, none⟩) 4 4) hR ((hX78.cell ceD)) ?_
   refine wk 18 (.int .i64 (((ib : Nat) : Int) : Int)) hR ((hX78.cell ceD)) ?_
   refine wl 19 (.pointer (some ⟨O64, ib, none⟩)) hR ((hX78.cell ceD)) rfl (fun w _ => ex_index (p := .slice (some ⟨O64, 0, none⟩) 4 4) (i := .int .i64 ((ib : Nat) : Int)) rfl (by kernel_rfl) (by kernel_rfl) (ix33z (k := ib) (by omega))) ?_
   refine wl 20 (.agg #[.slice aD nD cD]) hR ((hX78.cell ceD)) rfl (fun w hS => ex_load rfl (by kernel_rfl) (ld25 (hS))) ?_
   refine wd_step 16 hR rfl (by kernel_rfl) (by kernel_rfl) (by kernel_rfl) (sn_call (f := 24) (args := #[.agg #[.slice aD nD cD]]) (by kernel_rfl) ((Count_c _ _ aaD hX78 (hT.ext hE)).mono ?_))
   rintro e w189 ⟨rfl, hb⟩
   replace hE := hE.trans hb
   replace hX78 := hX78.trans hb
   have hs190 := hb.size
   clear hb
   refine ⟨_, rfl, (hX78.cell ceD), ?_⟩
   refine wd_step 21 hR rfl (by kernel_rfl) (by kernel_rfl) (by kernel_rfl) (sn_call (f := 25) (args := #[.agg #[.slice aD nD cD]]) (by kernel_rfl) ((rCount_c _ _ aaD hX78).mono ?_))
   rintro e w191 ⟨rfl, hb⟩
   replace hE := hE.trans hb
   replace hX78 := hX78.trans hb
   have hs192 := hb.size
   clear hb
   refine ⟨_, rfl, (hX78.cell ceD), ?_⟩
   refine wl 22 (.bool false) hR ((hX78.cell ceD)) rfl (fun w _ => ev_nne (show _ = Result.ok (Next.value (Value.bool ((((Globe.countL lD : Nat) : Int) : Int) != (((Globe.countL lD : Nat) : Int) : Int)))) _ from by kernel_rfl) (rfl)) ?_
   refine wk 23 (.bool false) hR ((hX78.cell ceD)) ?_
   refine wk 24 (.bool false) hR ((hX78.cell ceD)) ?_
   refine wk 25 (.slice (some ⟨O64, 0, none⟩) 4 4) hR ((hX78.cell ceD)) ?_
   refine wk 26 (.int .i64 (((ib : Nat) : Int) : Int)) hR ((hX78.cell ceD)) ?_
   refine wl 27 (.pointer (some ⟨O64, ib, none⟩)) hR ((hX78.cell ceD)) rfl (fun w _ => ex_index (p := .slice (some ⟨O64, 0, none⟩) 4 4) (i := .int .i64 ((ib : Nat) : Int)) rfl (by kernel_rfl) (by kernel_rfl) (ix33z (k := ib) (by omega))) ?_
   refine wl 28 (.agg #[.slice aD nD cD]) hR ((hX78.cell ceD)) rfl (fun w hS => ex_load rfl (by kernel_rfl) (ld25 (hS))) ?_
   refine wk 30 (.slice (some ⟨O64, 0, none⟩) 4 4) hR ((hX78.cell ceD)) ?_
   refine wk 31 (.int .i64 (((ib : Nat) : Int) : Int)) hR ((hX78.cell ceD)) ?_
   refine wl 32 (.pointer (some ⟨O64, ib, none⟩)) hR ((hX78.cell ceD)) rfl (fun w _ => ex_index (p := .slice (some ⟨O64, 0, none⟩) 4 4) (i := .int .i64 ((ib : Nat) : Int)) rfl (by kernel_rfl) (by kernel_rfl) (ix33z (k := ib) (by omega))) ?_
   refine wl 33 (.agg #[.slice aD nD cD]) hR ((hX78.cell ceD)) rfl (fun w hS => ex_load rfl (by kernel_rfl) (ld25 (hS))) ?_
   refine wd_step 29 hR rfl (by kernel_rfl) (by kernel_rfl) (by kernel_rfl) (sn_call (f := 27) (args := #[.agg #[.slice aD nD cD]]) (by kernel_rfl) ((Cells_c _ _ aaD hX78 (hT.ext hE)).mono ?_))
   rintro e w196 ⟨ca193, ck194, rfl, hC195, hb⟩
   replace hE := hE.trans hb
   replace hX78 := hX78.trans hb
   have hs197 := hb.size
   clear hb
   have hX198 : Ext w196 w196 := Ext.refl _
   refine ⟨_, rfl, (hX78.cell ceD), ?_⟩
   refine wd_step 34 hR rfl (by kernel_rfl) (by kernel_rfl) (by kernel_rfl) (sn_call (f := 28) (args := #[.agg #[.slice aD nD cD]]) (by kernel_rfl) ((rCells_c _ _ aaD hX78).mono ?_))
   rintro e w202 ⟨ca199, ck200, rfl, hC201, -, hb⟩
   replace hE := hE.trans hb
   replace hX78 := hX78.trans hb
   replace hX198 := hX198.trans hb
   have hs203 := hb.size
   clear hb
   have hX204 : Ext w202 w202 := Ext.refl _
   refine ⟨_, rfl, (hX78.cell ceD), ?_⟩
   refine wd_step 35 hR rfl (by kernel_rfl) (by kernel_rfl) (by kernel_rfl) (sn_call (f := 26) (args := #[.slice ca193 ((Globe.cellsL lD).length) ck194, .slice ca199 ((Globe.cellsL lD).length) ck200]) (by kernel_rfl) ((SameCells_c _ _ _ hC195 hX198 hC201 (Ext.refl _) (tr (Globe.countL_le lD) (by decide))).mono ?_))
   rintro e w205 ⟨rfl, hb⟩
   replace hE := hE.trans hb
   replace hX78 := hX78.trans hb
   replace hX198 := hX198.trans hb
   replace hX204 := hX204.trans hb
   have hs206 := hb.size
   clear hb
   refine ⟨_, rfl, (hX78.cell ceD), ?_⟩
   refine wk 36 (.bool false) hR ((hX78.cell ceD)) ?_
   refine wk 37 (.bool false) hR ((hX78.cell ceD)) ?_
   refine wd_end hL hR hK (by kernel_rfl) ?_
   refine qw_then ?_
   refine cw_clean [13, 15, 17, 18, 27, 230] (ws' := [(13, .pointer (some ⟨O13, 0, none⟩)), (15, .bool true), (17, .slice (some ⟨O64, 0, none⟩) 4 4), (18, .slice (some ⟨O74, 0, none⟩) 4 4), (27, .int .i64 (((ib : Nat) : Int) : Int)), (230, .bool false)]) (by kernel_rfl) (fun L => ?_)
   refine cw_f (by kernel_rfl) ?_
   refine cw_skip ?_
   refine qw_then ?_
   refine cw_seq ?_
   refine cw_seq ?_
   refine cw_plain ?_
   refine pk (.int .i64 0) ?_
   refine pl_nil ?_
   refine qw_then ?_
   refine cw_block ?_
   refine cw_loop [13, 15, 17, 18, 27, 28] (fun ws' wr m => ∃ jb : Nat, ws' = [(13, .pointer (some ⟨O13, 0, none⟩)), (15, .bool true), (17, .slice (some ⟨O64, 0, none⟩) 4 4), (18, .slice (some ⟨O74, 0, none⟩) 4 4), (27, .int .i64 (((ib : Nat) : Int) : Int)), (28, .int .i64 (((jb : Nat) : Int) : Int))] ∧ m = 4 - jb ∧ w205.heap.size ≤ wr.heap.size ∧ Ext w wr ∧ Ext X75 wr ∧ jb ≤ 4) (ws0 := [(13, .pointer (some ⟨O13, 0, none⟩)), (15, .bool true), (17, .slice (some ⟨O64, 0, none⟩) 4 4), (18, .slice (some ⟨O74, 0, none⟩) 4 4), (27, .int .i64 (((ib : Nat) : Int) : Int)), (28, .int .i64 0)]) (by kernel_rfl) _ ⟨0, rfl, rfl, Nat.le_refl _, hE, hX78, by omega⟩ ?_
   clear hE hX78
   rintro m209 L ws w208 ⟨jb, rfl, rfl, hs207, hE, hX78, hijb⟩
   by_cases hlt : jb < 4
   ·
    obtain ⟨xF, yF, cxF, cyF⟩ := hCe jb hlt
    refine cw_seq ?_
    refine cw_seq ?_
    refine cw_plain ?_
    refine pk (.int .i64 (((jb : Nat) : Int) : Int)) ?_
    refine pk (.slice (some ⟨O74, 0, none⟩) 4 4) ?_
    refine pk (.int .i64 4) ?_
    refine pl_take (.bool true) rfl (by kernel_rfl) (by kernel_rfl) (by kernel_rfl) (ev_dec (show _ = Result.ok (Next.value (Value.bool (decide ((((jb : Nat) : Int) : Int) < (4 : Int))))) _ from by kernel_rfl) (by omega)) ?_
    refine pl_nil ?_
    refine qw_then ?_
    refine cw_t (by kernel_rfl) ?_
    refine cw_skip ?_
    refine qw_then ?_
    refine cw_seq ?_
    refine cw_block ?_
    refine cw_seq ?_
    have hX210 : Ext w208 w208 := Ext.refl _
    refine cw_join (fun ws' Y => ∃ ra213 : Option Addr, ∃ rk214 : Nat, ∃ O219 : Nat, ws' = [(13, .pointer (some ⟨O13, 0, none⟩)), (15, .bool true), (17, .slice (some ⟨O64, 0, none⟩) 4 4), (18, .slice (some ⟨O74, 0, none⟩) 4 4), (27, .int .i64 (((ib : Nat) : Int) : Int)), (28, .int .i64 (((jb : Nat) : Int) : Int)), (29, .pointer (some ⟨O219, 0, none⟩)), (30, .int .i64 (orE (vD && Globe.vcB xF yF) 50 : Int))] ∧ Ext w Y ∧ Ext X75 Y ∧ Ext w208 Y ∧ IntsAt Y ra213 ((orL (vD && Globe.vcB xF yF) (Globe.putL lD (xF).toNat (yF).toNat))) ∧ BoxAt Y O219 0 (.slice ra213 ((orL (vD && Globe.vcB xF yF) (Globe.putL lD (xF).toNat (yF).toNat)).length) rk214) ∧ w208.heap.size ≤ Y.heap.size ∧ w208.heap.size ≤ O219) (fun hJ => ?_) ?_
    ·
     refine cw_draw [(some 238, [17], []), (some 239, [27], []), (some 240, [238, 239], [0, 1]), (some 241, [240], [2]), (some 242, [18], []), (some 243, [28], []), (some 244, [242, 243], [4, 5]), (some 245, [244], [6]), (some 246, [241, 245], [3, 7]), (some 237, [246], [8]), (some 247, [237], [9]), (some 248, [237], [9]), (some 29, [], []), (none, [29, 247], [12, 10, 8, 0, 1, 2, 3, 4, 5, 6, 7, 8, 9, 10, 12]), (some 30, [248], [11, 13, 0, 1, 2, 3, 4, 5, 6, 7, 8, 9, 10, 11, 12, 13])] (fun w' => w'.cell? ⟨O64, ib, none⟩ = some (.slice aD nD cD) ∧ w'.cell? ⟨O74, jb * 2, none⟩ = some (.int .i64 (xF : Int)) ∧ w'.cell? ⟨O74, jb * 2 + 1, none⟩ = some (.int .i64 (yF : Int))) (by kernel_rfl) (by kernel_rfl) (by kernel_rfl) (by kernel_rfl) ((calm_then (calm_block (calm_then (calm_then (calm_block (calm_then (calm_block (calm_then (calm_then (calm_block (calm_then calm_body)))))))))))) (⟨(hX78.cell ceD), (hX78.cell cxF), (hX78.cell cyF)⟩) (fun ops Q X211 hb hL hR hK => ?_)
     replace hE := hE.trans hb
     replace hX78 := hX78.trans hb
     replace hX210 := hX210.trans hb
     have hs212 := hb.size
     clear hb
     have hs9 := And.intro (hX78.cell ceD) (And.intro (hX78.cell cxF) (hX78.cell cyF))
     refine wk 0 (.slice (some ⟨O64, 0, none⟩) 4 4) hR hs9 ?_
     refine wk 1 (.int .i64 (((ib : Nat) : Int) : Int)) hR hs9 ?_
     refine wl 2 (.pointer (some ⟨O64, ib, none⟩)) hR hs9 rfl (fun w _ => ex_index (p := .slice (some ⟨O64, 0, none⟩) 4 4) (i := .int .i64 ((ib : Nat) : Int)) rfl (by kernel_rfl) (by kernel_rfl) (ix33z (k := ib) (by omega))) ?_
     refine wl 3 (.agg #[.slice aD nD cD]) hR hs9 rfl (fun w hS => ex_load rfl (by kernel_rfl) (ld25 (hS.1))) ?_
     refine wk 4 (.slice (some ⟨O74, 0, none⟩) 4 4) hR hs9 ?_
     refine wk 5 (.int .i64 (((jb : Nat) : Int) : Int)) hR hs9 ?_
     refine wl 6 (.pointer (some ⟨O74, jb * 2, none⟩)) hR hs9 rfl (fun w _ => ex_index (p := .slice (some ⟨O74, 0, none⟩) 4 4) (i := .int .i64 ((jb : Nat) : Int)) rfl (by kernel_rfl) (by kernel_rfl) (ix36z (k := jb) (by omega))) ?_
     refine wl 7 (.agg #[.int .i64 (xF : Int), .int .i64 (yF : Int)]) hR hs9 rfl (fun w hS => ex_load rfl (by kernel_rfl) (ld27 (hS.2.1) (hS.2.2))) ?_
     refine wd_two 8 12 hR rfl rfl (by kernel_rfl) (by kernel_rfl) (by kernel_rfl) (by kernel_rfl) ?_ ?_
     ·
      refine sn_call (f := 29) (args := #[.agg #[.slice aD nD cD], .agg #[.int .i64 (xF : Int), .int .i64 (yF : Int)]]) (by kernel_rfl) ((With_c _ _ _ _ aaD hX78).mono ?_)
      rintro e w217 ⟨ra213, rk214, rfl, hR215, hb, hfr216⟩
      replace hE := hE.trans hb
      replace hX78 := hX78.trans hb
      replace hX210 := hX210.trans hb
      have hs218 := hb.size
      clear hb
      refine ⟨_, rfl, ⟨(hX78.cell ceD), (hX78.cell cxF), (hX78.cell cyF)⟩, ?_⟩
      have hs9 := And.intro (hX78.cell ceD) (And.intro (hX78.cell cxF) (hX78.cell cyF))
      refine wk 9 (.tuple #[.agg #[.slice ra213 ((orL (vD && Globe.vcB xF yF) (Globe.putL lD (xF).toNat (yF).toNat)).length) rk214], .int .i64 (orE (vD && Globe.vcB xF yF) 50 : Int)]) hR hs9 ?_
      refine wl 10 (.agg #[.slice ra213 ((orL (vD && Globe.vcB xF yF) (Globe.putL lD (xF).toNat (yF).toNat)).length) rk214]) hR hs9 rfl (fun w _ => by kernel_rfl) ?_
      refine wk 11 (.int .i64 (orE (vD && Globe.vcB xF yF) 50 : Int)) hR hs9 ?_
      refine wd_step 12 hR rfl (by kernel_rfl) (by kernel_rfl) (by kernel_rfl) (sn_new (us := #[.slice none 0 0]) (t := 25) (by kernel_rfl) ?_)
      intro O219 X220 hO hOs hb hbx
      have hzO219 := hO; have hyO219 := hOs; clear hO hOs
      have bO219_0 : BoxAt X220 O219 0 (.slice none 0 0) := hbx 0 _ rfl
      clear hbx
      replace hE := hE.trans hb
      replace hX78 := hX78.trans hb
      replace hX210 := hX210.trans hb
      replace hR215 := hR215.ext hb
      have hs221 := hb.size
      clear hb
      have lt222 := bO219_0.lt
      refine ⟨⟨(hX78.cell ceD), (hX78.cell cxF), (hX78.cell cyF)⟩, ?_⟩
      refine wd_step 13 hR rfl (by kernel_rfl) (by kernel_rfl) (by kernel_rfl) (sn_set (O := O219) (j := 0) (v := .slice ra213 ((orL (vD && Globe.vcB xF yF) (Globe.putL lD (xF).toNat (yF).toNat)).length) rk214) (ex_store (p := .pointer (some ⟨O219, 0, none⟩)) (v := .agg #[.slice ra213 ((orL (vD && Globe.vcB xF yF) (Globe.putL lD (xF).toNat (yF).toNat)).length) rk214]) rfl (by kernel_rfl) (by kernel_rfl) (st25 bO219_0.1 bO219_0.2)) bO219_0 ?_)
      intro X223 ho hv0 hk
      replace hE := ho.ext hE (tr (tr hs3 (tr hs7 (tr hs11 (tr hs15 (tr hs18 (tr hs26 (tr hs31 (tr hs34 (tr hs36 (tr hs39 (tr hs41 (tr hs49 (tr hs59 (tr hs63 (tr hs66 (tr hs69 (tr hs71 (tr hs73 (tr hs76 (tr hs79 (tr hs180 (tr hs184 (tr hs186 (tr hs188 (tr hs190 (tr hs192 (tr hs197 (tr hs203 (tr hs206 (tr hs207 (tr hs212 hs218))))))))))))))))))))))))))))))) (Nat.le_of_eq hzO219))
      replace hX78 := ho.ext hX78 (tr (tr hs79 (tr hs180 (tr hs184 (tr hs186 (tr hs188 (tr hs190 (tr hs192 (tr hs197 (tr hs203 (tr hs206 (tr hs207 (tr hs212 hs218)))))))))))) (Nat.le_of_eq hzO219))
      replace hX210 := ho.ext hX210 (tr (tr hs212 hs218) (Nat.le_of_eq hzO219))
      replace hR215 := ho.ints (fun ad e => Nat.ne_of_lt (Nat.lt_of_lt_of_le (hfr216 ad e).2 (Nat.le_of_eq hzO219))) hR215
      have hs224 : X220.heap.size ≤ X223.heap.size := Nat.le_of_eq ho.size.symm
      clear ho hk bO219_0
      have bO219_0 := hv0; clear hv0
      refine ⟨⟨(hX78.cell ceD), (hX78.cell cxF), (hX78.cell cyF)⟩, ?_⟩
      refine wk 14 (.int .i64 (orE (vD && Globe.vcB xF yF) 50 : Int)) hR (⟨(hX78.cell ceD), (hX78.cell cxF), (hX78.cell cyF)⟩) ?_
      refine wd_end hL hR hK (by kernel_rfl) ?_
      exact qw_leaf hJ [13, 15, 17, 18, 27, 28, 29, 30] (ws' := [(13, .pointer (some ⟨O13, 0, none⟩)), (15, .bool true), (17, .slice (some ⟨O64, 0, none⟩) 4 4), (18, .slice (some ⟨O74, 0, none⟩) 4 4), (27, .int .i64 (((ib : Nat) : Int) : Int)), (28, .int .i64 (((jb : Nat) : Int) : Int)), (29, .pointer (some ⟨O219, 0, none⟩)), (30, .int .i64 (orE (vD && Globe.vcB xF yF) 50 : Int))]) (by kernel_rfl) ⟨ra213, rk214, O219, rfl, hE, hX78, hX210, hR215, bO219_0, (tr hs212 (tr hs218 (tr hs221 hs224))), (tr (tr hs212 hs218) (Nat.le_of_eq hzO219))⟩
     ·
      refine sn_new (us := #[.slice none 0 0]) (t := 25) (by kernel_rfl) ?_
      intro O225 X226 hO hOs hb hbx
      have hzO225 := hO; have hyO225 := hOs; clear hO hOs
      have bO225_0 : BoxAt X226 O225 0 (.slice none 0 0) := hbx 0 _ rfl
      clear hbx
      replace hE := hE.trans hb
      replace hX78 := hX78.trans hb
      replace hX210 := hX210.trans hb
      have hs227 := hb.size
      clear hb
      have lt228 := bO225_0.lt
      refine ⟨⟨(hX78.cell ceD), (hX78.cell cxF), (hX78.cell cyF)⟩, ?_⟩
      refine wd_step 8 hR rfl (by kernel_rfl) (by kernel_rfl) (by kernel_rfl) (sn_call (f := 29) (args := #[.agg #[.slice aD nD cD], .agg #[.int .i64 (xF : Int), .int .i64 (yF : Int)]]) (by kernel_rfl) ((With_c _ _ _ _ aaD hX78).mono ?_))
      rintro e w233 ⟨ra229, rk230, rfl, hR231, hb, hfr232⟩
      replace hE := hE.trans hb
      replace hX78 := hX78.trans hb
      replace hX210 := hX210.trans hb
      replace bO225_0 := Bx hb bO225_0
      have hs234 := hb.size
      clear hb
      refine ⟨_, rfl, ⟨(hX78.cell ceD), (hX78.cell cxF), (hX78.cell cyF)⟩, ?_⟩
      have hs9 := And.intro (hX78.cell ceD) (And.intro (hX78.cell cxF) (hX78.cell cyF))
      refine wk 9 (.tuple #[.agg #[.slice ra229 ((orL (vD && Globe.vcB xF yF) (Globe.putL lD (xF).toNat (yF).toNat)).length) rk230], .int .i64 (orE (vD && Globe.vcB xF yF) 50 : Int)]) hR hs9 ?_
      refine wl 10 (.agg #[.slice ra229 ((orL (vD && Globe.vcB xF yF) (Globe.putL lD (xF).toNat (yF).toNat)).length) rk230]) hR hs9 rfl (fun w _ => by kernel_rfl) ?_
      refine wk 11 (.int .i64 (orE (vD && Globe.vcB xF yF) 50 : Int)) hR hs9 ?_
      refine wd_step 13 hR rfl (by kernel_rfl) (by kernel_rfl) (by kernel_rfl) (sn_set (O := O225) (j := 0) (v := .slice ra229 ((orL (vD && Globe.vcB xF yF) (Globe.putL lD (xF).toNat (yF).toNat)).length) rk230) (ex_store (p := .pointer (some ⟨O225, 0, none⟩)) (v := .agg #[.slice ra229 ((orL (vD && Globe.vcB xF yF) (Globe.putL lD (xF).toNat (yF).toNat)).length) rk230]) rfl (by kernel_rfl) (by kernel_rfl) (st25 bO225_0.1 bO225_0.2)) bO225_0 ?_)
      intro X235 ho hv0 hk
      replace hE := ho.ext hE (tr (tr hs3 (tr hs7 (tr hs11 (tr hs15 (tr hs18 (tr hs26 (tr hs31 (tr hs34 (tr hs36 (tr hs39 (tr hs41 (tr hs49 (tr hs59 (tr hs63 (tr hs66 (tr hs69 (tr hs71 (tr hs73 (tr hs76 (tr hs79 (tr hs180 (tr hs184 (tr hs186 (tr hs188 (tr hs190 (tr hs192 (tr hs197 (tr hs203 (tr hs206 (tr hs207 hs212)))))))))))))))))))))))))))))) (Nat.le_of_eq hzO225))
      replace hX78 := ho.ext hX78 (tr (tr hs79 (tr hs180 (tr hs184 (tr hs186 (tr hs188 (tr hs190 (tr hs192 (tr hs197 (tr hs203 (tr hs206 (tr hs207 hs212))))))))))) (Nat.le_of_eq hzO225))
      replace hX210 := ho.ext hX210 (tr hs212 (Nat.le_of_eq hzO225))
      replace hR231 := ho.ints (fun ad e => Nat.ne_of_gt (Nat.lt_of_lt_of_le lt228 (tr (Nat.le_refl _) (hfr232 ad e).1))) hR231
      have hs236 : w233.heap.size ≤ X235.heap.size := Nat.le_of_eq ho.size.symm
      clear ho hk bO225_0
      have bO225_0 := hv0; clear hv0
      refine ⟨⟨(hX78.cell ceD), (hX78.cell cxF), (hX78.cell cyF)⟩, ?_⟩
      refine wk 14 (.int .i64 (orE (vD && Globe.vcB xF yF) 50 : Int)) hR (⟨(hX78.cell ceD), (hX78.cell cxF), (hX78.cell cyF)⟩) ?_
      refine wd_end hL hR hK (by kernel_rfl) ?_
      exact qw_leaf hJ [13, 15, 17, 18, 27, 28, 29, 30] (ws' := [(13, .pointer (some ⟨O13, 0, none⟩)), (15, .bool true), (17, .slice (some ⟨O64, 0, none⟩) 4 4), (18, .slice (some ⟨O74, 0, none⟩) 4 4), (27, .int .i64 (((ib : Nat) : Int) : Int)), (28, .int .i64 (((jb : Nat) : Int) : Int)), (29, .pointer (some ⟨O225, 0, none⟩)), (30, .int .i64 (orE (vD && Globe.vcB xF yF) 50 : Int))]) (by kernel_rfl) ⟨ra229, rk230, O225, rfl, hE, hX78, hX210, hR231, bO225_0, (tr hs212 (tr hs227 (tr hs234 hs236))), (tr hs212 (Nat.le_of_eq hzO225))⟩
    ·
     clear hE hX78 hX210
     rintro L ws Y237 ⟨ra213, rk214, O219, rfl, hE, hX78, hX210, hR215, bO219_0, hn238, hn239⟩
     have lt240 := bO219_0.lt
     refine qw_then ?_
     refine cw_seq ?_
     have hX241 : Ext Y237 Y237 := Ext.refl _
     refine cw_join (fun ws' Y => ∃ ra244 : Option Addr, ∃ rk245 : Nat, ∃ O250 : Nat, ws' = [(13, .pointer (some ⟨O13, 0, none⟩)), (15, .bool true), (17, .slice (some ⟨O64, 0, none⟩) 4 4), (18, .slice (some ⟨O74, 0, none⟩) 4 4), (27, .int .i64 (((ib : Nat) : Int) : Int)), (28, .int .i64 (((jb : Nat) : Int) : Int)), (29, .pointer (some ⟨O219, 0, none⟩)), (30, .int .i64 (orE (vD && Globe.vcB xF yF) 50 : Int)), (31, .pointer (some ⟨O250, 0, none⟩)), (32, .int .i64 (orE (vD && Globe.vcB xF yF) 50 : Int))] ∧ Ext w Y ∧ Ext X75 Y ∧ Ext w208 Y ∧ Ext Y237 Y ∧ IntsAt Y ra244 ((orL (vD && Globe.vcB xF yF) (Globe.putL lD (xF).toNat (yF).toNat))) ∧ BoxAt Y O250 0 (.slice ra244 ((orL (vD && Globe.vcB xF yF) (Globe.putL lD (xF).toNat (yF).toNat)).length) rk245) ∧ Y237.heap.size ≤ Y.heap.size ∧ Y237.heap.size ≤ O250) (fun hJ => ?_) ?_
     ·
      refine cw_draw [(some 250, [17], []), (some 251, [27], []), (some 252, [250, 251], [0, 1]), (some 253, [252], [2]), (some 254, [18], []), (some 255, [28], []), (some 256, [254, 255], [4, 5]), (some 257, [256], [6]), (some 258, [253, 257], [3, 7]), (some 249, [258], [8]), (some 259, [249], [9]), (some 260, [249], [9]), (some 31, [], []), (none, [31, 259], [12, 10, 8, 0, 1, 2, 3, 4, 5, 6, 7, 8, 9, 10, 12]), (some 32, [260], [11, 13, 0, 1, 2, 3, 4, 5, 6, 7, 8, 9, 10, 11, 12, 13])] (fun w' => w'.cell? ⟨O64, ib, none⟩ = some (.slice aD nD cD) ∧ w'.cell? ⟨O74, jb * 2, none⟩ = some (.int .i64 (xF : Int)) ∧ w'.cell? ⟨O74, jb * 2 + 1, none⟩ = some (.int .i64 (yF : Int))) (by kernel_rfl) (by kernel_rfl) (by kernel_rfl) (by kernel_rfl) ((calm_then (calm_block (calm_then (calm_then (calm_block (calm_then (calm_block (calm_then (calm_then (calm_block (calm_then calm_body)))))))))))) (⟨(hX78.cell ceD), (hX78.cell cxF), (hX78.cell cyF)⟩) (fun ops Q X242 hb hL hR hK => ?_)
      replace hE := hE.trans hb
      replace hX78 := hX78.trans hb
      replace hX210 := hX210.trans hb
      replace hX241 := hX241.trans hb
      have hs243 := hb.size
      clear hb
      have hs9 := And.intro (hX78.cell ceD) (And.intro (hX78.cell cxF) (hX78.cell cyF))
      refine wk 0 (.slice (some ⟨O64, 0, none⟩) 4 4) hR hs9 ?_
      refine wk 1 (.int .i64 (((ib : Nat) : Int) : Int)) hR hs9 ?_
      refine wl 2 (.pointer (some ⟨O64, ib, none⟩)) hR hs9 rfl (fun w _ => ex_index (p := .slice (some ⟨O64, 0, none⟩) 4 4) (i := .int .i64 ((ib : Nat) : Int)) rfl (by kernel_rfl) (by kernel_rfl) (ix33z (k := ib) (by omega))) ?_
      refine wl 3 (.agg #[.slice aD nD cD]) hR hs9 rfl (fun w hS => ex_load rfl (by kernel_rfl) (ld25 (hS.1))) ?_
      refine wk 4 (.slice (some ⟨O74, 0, none⟩) 4 4) hR hs9 ?_
      refine wk 5 (.int .i64 (((jb : Nat) : Int) : Int)) hR hs9 ?_
      refine wl 6 (.pointer (some ⟨O74, jb * 2, none⟩)) hR hs9 rfl (fun w _ => ex_index (p := .slice (some ⟨O74, 0, none⟩) 4 4) (i := .int .i64 ((jb : Nat) : Int)) rfl (by kernel_rfl) (by kernel_rfl) (ix36z (k := jb) (by omega))) ?_
      refine wl 7 (.agg #[.int .i64 (xF : Int), .int .i64 (yF : Int)]) hR hs9 rfl (fun w hS => ex_load rfl (by kernel_rfl) (ld27 (hS.2.1) (hS.2.2))) ?_
      refine wd_two 8 12 hR rfl rfl (by kernel_rfl) (by kernel_rfl) (by kernel_rfl) (by kernel_rfl) ?_ ?_
      ·
       refine sn_call (f := 30) (args := #[.agg #[.slice aD nD cD], .agg #[.int .i64 (xF : Int), .int .i64 (yF : Int)]]) (by kernel_rfl) ((rWith_c _ _ _ _ aaD hX78).mono ?_)
       rintro e w248 ⟨ra244, rk245, rfl, hR246, hb, hfr247⟩
       replace hE := hE.trans hb
       replace hX78 := hX78.trans hb
       replace hX210 := hX210.trans hb
       replace hX241 := hX241.trans hb
       have hs249 := hb.size
       clear hb
       refine ⟨_, rfl, ⟨(hX78.cell ceD), (hX78.cell cxF), (hX78.cell cyF)⟩, ?_⟩
       have hs9 := And.intro (hX78.cell ceD) (And.intro (hX78.cell cxF) (hX78.cell cyF))
       refine wk 9 (.tuple #[.agg #[.slice ra244 ((orL (vD && Globe.vcB xF yF) (Globe.putL lD (xF).toNat (yF).toNat)).length) rk245], .int .i64 (orE (vD && Globe.vcB xF yF) 50 : Int)]) hR hs9 ?_
       refine wl 10 (.agg #[.slice ra244 ((orL (vD && Globe.vcB xF yF) (Globe.putL lD (xF).toNat (yF).toNat)).length) rk245]) hR hs9 rfl (fun w _ => by kernel_rfl) ?_
       refine wk 11 (.int .i64 (orE (vD && Globe.vcB xF yF) 50 : Int)) hR hs9 ?_
       refine wd_step 12 hR rfl (by kernel_rfl) (by kernel_rfl) (by kernel_rfl) (sn_new (us := #[.slice none 0 0]) (t := 25) (by kernel_rfl) ?_)
       intro O250 X251 hO hOs hb hbx
       have hzO250 := hO; have hyO250 := hOs; clear hO hOs
       have bO250_0 : BoxAt X251 O250 0 (.slice none 0 0) := hbx 0 _ rfl
       clear hbx
       replace hE := hE.trans hb
       replace hX78 := hX78.trans hb
       replace hX210 := hX210.trans hb
       replace hX241 := hX241.trans hb
       replace hR246 := hR246.ext hb
       have hs252 := hb.size
       clear hb
       have lt253 := bO250_0.lt
       refine ⟨⟨(hX78.cell ceD), (hX78.cell cxF), (hX78.cell cyF)⟩, ?_⟩
       refine wd_step 13 hR rfl (by kernel_rfl) (by kernel_rfl) (by kernel_rfl) (sn_set (O := O250) (j := 0) (v := .slice ra244 ((orL (vD && Globe.vcB xF yF) (Globe.putL lD (xF).toNat (yF).toNat)).length) rk245) (ex_store (p := .pointer (some ⟨O250, 0, none⟩)) (v := .agg #[.slice ra244 ((orL (vD && Globe.vcB xF yF) (Globe.putL lD (xF).toNat (yF).toNat)).length) rk245]) rfl (by kernel_rfl) (by kernel_rfl) (st25 bO250_0.1 bO250_0.2)) bO250_0 ?_)
       intro X254 ho hv0 hk
       replace hE := ho.ext hE (tr (tr hs3 (tr hs7 (tr hs11 (tr hs15 (tr hs18 (tr hs26 (tr hs31 (tr hs34 (tr hs36 (tr hs39 (tr hs41 (tr hs49 (tr hs59 (tr hs63 (tr hs66 (tr hs69 (tr hs71 (tr hs73 (tr hs76 (tr hs79 (tr hs180 (tr hs184 (tr hs186 (tr hs188 (tr hs190 (tr hs192 (tr hs197 (tr hs203 (tr hs206 (tr hs207 (tr hn238 (tr hs243 hs249)))))))))))))))))))))))))))))))) (Nat.le_of_eq hzO250))
       replace hX78 := ho.ext hX78 (tr (tr hs79 (tr hs180 (tr hs184 (tr hs186 (tr hs188 (tr hs190 (tr hs192 (tr hs197 (tr hs203 (tr hs206 (tr hs207 (tr hn238 (tr hs243 hs249))))))))))))) (Nat.le_of_eq hzO250))
       replace hX210 := ho.ext hX210 (tr (tr hn238 (tr hs243 hs249)) (Nat.le_of_eq hzO250))
       replace hX241 := ho.ext hX241 (tr (tr hs243 hs249) (Nat.le_of_eq hzO250))
       replace hR246 := ho.ints (fun ad e => Nat.ne_of_lt (Nat.lt_of_lt_of_le (hfr247 ad e).2 (Nat.le_of_eq hzO250))) hR246
       have hs255 : X251.heap.size ≤ X254.heap.size := Nat.le_of_eq ho.size.symm
       clear ho hk bO250_0
       have bO250_0 := hv0; clear hv0
       refine ⟨⟨(hX78.cell ceD), (hX78.cell cxF), (hX78.cell cyF)⟩, ?_⟩
       refine wk 14 (.int .i64 (orE (vD && Globe.vcB xF yF) 50 : Int)) hR (⟨(hX78.cell ceD), (hX78.cell cxF), (hX78.cell cyF)⟩) ?_
       refine wd_end hL hR hK (by kernel_rfl) ?_
       exact qw_leaf hJ [13, 15, 17, 18, 27, 28, 29, 30, 31, 32] (ws' := [(13, .pointer (some ⟨O13, 0, none⟩)), (15, .bool true), (17, .slice (some ⟨O64, 0, none⟩) 4 4), (18, .slice (some ⟨O74, 0, none⟩) 4 4), (27, .int .i64 (((ib : Nat) : Int) : Int)), (28, .int .i64 (((jb : Nat) : Int) : Int)), (29, .pointer (some ⟨O219, 0, none⟩)), (30, .int .i64 (orE (vD && Globe.vcB xF yF) 50 : Int)), (31, .pointer (some ⟨O250, 0, none⟩)), (32, .int .i64 (orE (vD && Globe.vcB xF yF) 50 : Int))]) (by kernel_rfl) ⟨ra244, rk245, O250, rfl, hE, hX78, hX210, hX241, hR246, bO250_0, (tr hs243 (tr hs249 (tr hs252 hs255))), (tr (tr hs243 hs249) (Nat.le_of_eq hzO250))⟩
      ·
       refine sn_new (us := #[.slice none 0 0]) (t := 25) (by kernel_rfl) ?_
       intro O256 X257 hO hOs hb hbx
       have hzO256 := hO; have hyO256 := hOs; clear hO hOs
       have bO256_0 : BoxAt X257 O256 0 (.slice none 0 0) := hbx 0 _ rfl
       clear hbx
       replace hE := hE.trans hb
       replace hX78 := hX78.trans hb
       replace hX210 := hX210.trans hb
       replace hX241 := hX241.trans hb
       have hs258 := hb.size
       clear hb
       have lt259 := bO256_0.lt
       refine ⟨⟨(hX78.cell ceD), (hX78.cell cxF), (hX78.cell cyF)⟩, ?_⟩
       refine wd_step 8 hR rfl (by kernel_rfl) (by kernel_rfl) (by kernel_rfl) (sn_call (f := 30) (args := #[.agg #[.slice aD nD cD], .agg #[.int .i64 (xF : Int), .int .i64 (yF : Int)]]) (by kernel_rfl) ((rWith_c _ _ _ _ aaD hX78).mono ?_))
       rintro e w264 ⟨ra260, rk261, rfl, hR262, hb, hfr263⟩
       replace hE := hE.trans hb
       replace hX78 := hX78.trans hb
       replace hX210 := hX210.trans hb
       replace hX241 := hX241.trans hb
       replace bO256_0 := Bx hb bO256_0
       have hs265 := hb.size
       clear hb
       refine ⟨_, rfl, ⟨(hX78.cell ceD), (hX78.cell cxF), (hX78.cell cyF)⟩, ?_⟩
       have hs9 := And.intro (hX78.cell ceD) (And.intro (hX78.cell cxF) (hX78.cell cyF))
       refine wk 9 (.tuple #[.agg #[.slice ra260 ((orL (vD && Globe.vcB xF yF) (Globe.putL lD (xF).toNat (yF).toNat)).length) rk261], .int .i64 (orE (vD && Globe.vcB xF yF) 50 : Int)]) hR hs9 ?_
       refine wl 10 (.agg #[.slice ra260 ((orL (vD && Globe.vcB xF yF) (Globe.putL lD (xF).toNat (yF).toNat)).length) rk261]) hR hs9 rfl (fun w _ => by kernel_rfl) ?_
       refine wk 11 (.int .i64 (orE (vD && Globe.vcB xF yF) 50 : Int)) hR hs9 ?_
       refine wd_step 13 hR rfl (by kernel_rfl) (by kernel_rfl) (by kernel_rfl) (sn_set (O := O256) (j := 0) (v := .slice ra260 ((orL (vD && Globe.vcB xF yF) (Globe.putL lD (xF).toNat (yF).toNat)).length) rk261) (ex_store (p := .pointer (some ⟨O256, 0, none⟩)) (v := .agg #[.slice ra260 ((orL (vD && Globe.vcB xF yF) (Globe.putL lD (xF).toNat (yF).toNat)).length) rk261]) rfl (by kernel_rfl) (by kernel_rfl) (st25 bO256_0.1 bO256_0.2)) bO256_0 ?_)
       intro X266 ho hv0 hk
       replace hE := ho.ext hE (tr (tr hs3 (tr hs7 (tr hs11 (tr hs15 (tr hs18 (tr hs26 (tr hs31 (tr hs34 (tr hs36 (tr hs39 (tr hs41 (tr hs49 (tr hs59 (tr hs63 (tr hs66 (tr hs69 (tr hs71 (tr hs73 (tr hs76 (tr hs79 (tr hs180 (tr hs184 (tr hs186 (tr hs188 (tr hs190 (tr hs192 (tr hs197 (tr hs203 (tr hs206 (tr hs207 (tr hn238 hs243))))))))))))))))))))))))))))))) (Nat.le_of_eq hzO256))
       replace hX78 := ho.ext hX78 (tr (tr hs79 (tr hs180 (tr hs184 (tr hs186 (tr hs188 (tr hs190 (tr hs192 (tr hs197 (tr hs203 (tr hs206 (tr hs207 (tr hn238 hs243)))))))))))) (Nat.le_of_eq hzO256))
       replace hX210 := ho.ext hX210 (tr (tr hn238 hs243) (Nat.le_of_eq hzO256))
       replace hX241 := ho.ext hX241 (tr hs243 (Nat.le_of_eq hzO256))
       replace hR262 := ho.ints (fun ad e => Nat.ne_of_gt (Nat.lt_of_lt_of_le lt259 (tr (Nat.le_refl _) (hfr263 ad e).1))) hR262
       have hs267 : w264.heap.size ≤ X266.heap.size := Nat.le_of_eq ho.size.symm
       clear ho hk bO256_0
       have bO256_0 := hv0; clear hv0
       refine ⟨⟨(hX78.cell ceD), (hX78.cell cxF), (hX78.cell cyF)⟩, ?_⟩
       refine wk 14 (.int .i64 (orE (vD && Globe.vcB xF yF) 50 : Int)) hR (⟨(hX78.cell ceD), (hX78.cell cxF), (hX78.cell cyF)⟩) ?_
       refine wd_end hL hR hK (by kernel_rfl) ?_
       exact qw_leaf hJ [13, 15, 17, 18, 27, 28, 29, 30, 31, 32] (ws' := [(13, .pointer (some ⟨O13, 0, none⟩)), (15, .bool true), (17, .slice (some ⟨O64, 0, none⟩) 4 4), (18, .slice (some ⟨O74, 0, none⟩) 4 4), (27, .int .i64 (((ib : Nat) : Int) : Int)), (28, .int .i64 (((jb : Nat) : Int) : Int)), (29, .pointer (some ⟨O219, 0, none⟩)), (30, .int .i64 (orE (vD && Globe.vcB xF yF) 50 : Int)), (31, .pointer (some ⟨O256, 0, none⟩)), (32, .int .i64 (orE (vD && Globe.vcB xF yF) 50 : Int))]) (by kernel_rfl) ⟨ra260, rk261, O256, rfl, hE, hX78, hX210, hX241, hR262, bO256_0, (tr hs243 (tr hs258 (tr hs265 hs267))), (tr hs243 (Nat.le_of_eq hzO256))⟩
     ·
      clear hE hX78 hX210 hX241
      rintro L ws Y268 ⟨ra244, rk245, O250, rfl, hE, hX78, hX210, hX241, hR246, bO250_0, hn269, hn270⟩
      have lt271 := bO250_0.lt
      refine qw_then ?_
      refine cw_seq ?_
      have hX272 : Ext Y268 Y268 := Ext.refl _
      refine cw_draw [(some 261, [30], []), (some 262, [32], []), (some 263, [261, 262], [0, 1]), (some 264, [263], [2]), (some 265, [29, 264], [3]), (some 266, [31, 264], [3]), (some 267, [265, 266, 264], [4, 5, 3, 3]), (some 268, [267, 264], [6, 3]), (some 269, [264, 268], [3, 7]), (some 270, [269], [8, 6]), (some 271, [17, 270], [9]), (some 272, [27, 270], [9]), (some 273, [271, 272, 270], [10, 11, 9]), (some 274, [273, 270], [12, 9]), (some 275, [18, 270], [9]), (some 276, [28, 270], [9]), (some 277, [275, 276, 270], [14, 15, 9]), (some 278, [277, 270], [16, 9]), (some 279, [274, 278, 270], [13, 17, 9, 9]), (some 280, [17, 270], [9]), (some 281, [27, 270], [9]), (some 282, [280, 281, 270], [19, 20, 9]), (some 283, [282, 270], [21, 9]), (some 284, [18, 270], [9]), (some 285, [28, 270], [9]), (some 286, [284, 285, 270], [23, 24, 9]), (some 287, [286, 270], [25, 9]), (some 288, [283, 287, 270], [22, 26, 18, 9]), (some 289, [279, 288, 270], [18, 27, 9]), (some 290, [270, 289], [9, 28])] (fun w' => w'.cell? ⟨O219, 0, none⟩ = some (.slice ra213 ((orL (vD && Globe.vcB xF yF) (Globe.putL lD (xF).toNat (yF).toNat)).length) rk214) ∧ w'.cell? ⟨O250, 0, none⟩ = some (.slice ra244 ((orL (vD && Globe.vcB xF yF) (Globe.putL lD (xF).toNat (yF).toNat)).length) rk245) ∧ w'.cell? ⟨O64, ib, none⟩ = some (.slice aD nD cD) ∧ w'.cell? ⟨O74, jb * 2, none⟩ = some (.int .i64 (xF : Int)) ∧ w'.cell? ⟨O74, jb * 2 + 1, none⟩ = some (.int .i64 (yF : Int))) (by kernel_rfl) (by kernel_rfl) (by kernel_rfl) (by kernel_rfl) ((calm_then (calm_block (calm_then (calm_then (calm_block (calm_then (calm_block (calm_then (calm_then (calm_block (calm_then calm_body)))))))))))) (⟨(Bx hX241 bO219_0).1, bO250_0.1, (hX78.cell ceD), (hX78.cell cxF), (hX78.cell cyF)⟩) (fun ops Q X273 hb hL hR hK => ?_)
      replace hE := hE.trans hb
      replace hX78 := hX78.trans hb
      replace hX210 := hX210.trans hb
      replace hX241 := hX241.trans hb
      replace hX272 := hX272.trans hb
      have hs274 := hb.size
      clear hb
      have hs9 := And.intro (BoxAt.ext hX241 bO219_0).1 (And.intro (BoxAt.ext hX272 bO250_0).1 (And.intro (hX78.cell ceD) (And.intro (hX78.cell cxF) (hX78.cell cyF))))
      refine wk 0 (.int .i64 (orE (vD && Globe.vcB xF yF) 50 : Int)) hR hs9 ?_
      refine wk 1 (.int .i64 (orE (vD && Globe.vcB xF yF) 50 : Int)) hR hs9 ?_
      refine wl 2 (.bool false) hR hs9 rfl (fun w _ => ev_nne (show _ = Result.ok (Next.value (Value.bool ((orE (vD && Globe.vcB xF yF) 50 : Int) != (orE (vD && Globe.vcB xF yF) 50 : Int)))) _ from by kernel_rfl) (rfl)) ?_
      refine wk 3 (.bool false) hR hs9 ?_
      refine wl 4 (.agg #[.slice ra213 ((orL (vD && Globe.vcB xF yF) (Globe.putL lD (xF).toNat (yF).toNat)).length) rk214]) hR hs9 rfl (fun w hS => ex_load rfl (by kernel_rfl) (ld25 (hS.1))) ?_
      refine wl 5 (.agg #[.slice ra244 ((orL (vD && Globe.vcB xF yF) (Globe.putL lD (xF).toNat (yF).toNat)).length) rk245]) hR hs9 rfl (fun w hS => ex_load rfl (by kernel_rfl) (ld25 (hS.2.1))) ?_
      refine wd_step 6 hR rfl (by kernel_rfl) (by kernel_rfl) (by kernel_rfl) (sn_call (f := 21) (args := #[.agg #[.slice ra213 ((orL (vD && Globe.vcB xF yF) (Globe.putL lD (xF).toNat (yF).toNat)).length) rk214], .agg #[.slice ra244 ((orL (vD && Globe.vcB xF yF) (Globe.putL lD (xF).toNat (yF).toNat)).length) rk245]]) (by kernel_rfl) ((rSame_t _ _ _ (aa_of hR215 (orL_len (by unfold Globe.putL; rw [List.length_set]; exact bnD))) hX241 (aa_of hR246 (orL_len (by unfold Globe.putL; rw [List.length_set]; exact bnD))) hX272).mono ?_))
      rintro e w275 ⟨rfl, hb⟩
      replace hE := hE.trans hb
      replace hX78 := hX78.trans hb
      replace hX210 := hX210.trans hb
      replace hX241 := hX241.trans hb
      replace hX272 := hX272.trans hb
      have hs276 := hb.size
      clear hb
      refine ⟨_, rfl, ⟨(Bx hX241 bO219_0).1, (Bx hX272 bO250_0).1, (hX78.cell ceD), (hX78.cell cxF), (hX78.cell cyF)⟩, ?_⟩
      have hs9 := And.intro (BoxAt.ext hX241 bO219_0).1 (And.intro (BoxAt.ext hX272 bO250_0).1 (And.intro (hX78.cell ceD) (And.intro (hX78.cell cxF) (hX78.cell cyF))))
      refine wk 7 (.bool false) hR hs9 ?_
      refine wk 8 (.bool false) hR hs9 ?_
      refine wk 9 (.bool false) hR hs9 ?_
      refine wk 10 (.slice (some ⟨O64, 0, none⟩) 4 4) hR hs9 ?_
      refine wk 11 (.int .i64 (((ib : Nat) : Int) : Int)) hR hs9 ?_
      refine wl 12 (.pointer (some ⟨O64, ib, none⟩)) hR hs9 rfl (fun w _ => ex_index (p := .slice (some ⟨O64, 0, none⟩) 4 4) (i := .int .i64 ((ib : Nat) : Int)) rfl (by kernel_rfl) (by kernel_rfl) (ix33z (k := ib) (by omega))) ?_
      refine wl 13 (.agg #[.slice aD nD cD]) hR hs9 rfl (fun w hS => ex_load rfl (by kernel_rfl) (ld25 (hS.2.2.1))) ?_
      refine wk 14 (.slice (some ⟨O74, 0, none⟩) 4 4) hR hs9 ?_
      refine wk 15 (.int .i64 (((jb : Nat) : Int) : Int)) hR hs9 ?_
      refine wl 16 (.pointer (some ⟨O74, jb * 2, none⟩)) hR hs9 rfl (fun w _ => ex_index (p := .slice (some ⟨O74, 0, none⟩) 4 4) (i := .int .i64 ((jb : Nat) : Int)) rfl (by kernel_rfl) (by kernel_rfl) (ix36z (k := jb) (by omega))) ?_
      refine wl 17 (.agg #[.int .i64 (xF : Int), .int .i64 (yF : Int)]) hR hs9 rfl (fun w hS => ex_load rfl (by kernel_rfl) (ld27 (hS.2.2.2.1) (hS.2.2.2.2))) ?_
      refine wk 19 (.slice (some ⟨O64, 0, none⟩) 4 4) hR hs9 ?_
      refine wk 20 (.int .i64 (((ib : Nat) : Int) : Int)) hR hs9 ?_
      refine wl 21 (.pointer (some ⟨O64, ib, none⟩)) hR hs9 rfl (fun w _ => ex_index (p := .slice (some ⟨O64, 0, none⟩) 4 4) (i := .int .i64 ((ib : Nat) : Int)) rfl (by kernel_rfl) (by kernel_rfl) (ix33z (k := ib) (by omega))) ?_
      refine wl 22 (.agg #[.slice aD nD cD]) hR hs9 rfl (fun w hS => ex_load rfl (by kernel_rfl) (ld25 (hS.2.2.1))) ?_
      refine wk 23 (.slice (some ⟨O74, 0, none⟩) 4 4) hR hs9 ?_
      refine wk 24 (.int .i64 (((jb : Nat) : Int) : Int)) hR hs9 ?_
      refine wl 25 (.pointer (some ⟨O74, jb * 2, none⟩)) hR hs9 rfl (fun w _ => ex_index (p := .slice (some ⟨O74, 0, none⟩) 4 4) (i := .int .i64 ((jb : Nat) : Int)) rfl (by kernel_rfl) (by kernel_rfl) (ix36z (k := jb) (by omega))) ?_
      refine wl 26 (.agg #[.int .i64 (xF : Int), .int .i64 (yF : Int)]) hR hs9 rfl (fun w hS => ex_load rfl (by kernel_rfl) (ld27 (hS.2.2.2.1) (hS.2.2.2.2))) ?_
      refine wd_step 18 hR rfl (by kernel_rfl) (by kernel_rfl) (by kernel_rfl) (sn_call (f := 31) (args := #[.agg #[.slice aD nD cD], .agg #[.int .i64 (xF : Int), .int .i64 (yF : Int)]]) (by kernel_rfl) ((Has_c _ _ _ _ _ _ _ (aaD.ext hX78).1 aaD.2.1 aaD.2.2.1).mono ?_))
      rintro e w277 ⟨rfl, hb⟩
      replace hE := hE.trans hb
      replace hX78 := hX78.trans hb
      replace hX210 := hX210.trans hb
      replace hX241 := hX241.trans hb
      replace hX272 := hX272.trans hb
      have hs278 := hb.size
      clear hb
      refine ⟨_, rfl, ⟨(Bx hX241 bO219_0).1, (Bx hX272 bO250_0).1, (hX78.cell ceD), (hX78.cell cxF), (hX78.cell cyF)⟩, ?_⟩
      refine wd_step 27 hR rfl (by kernel_rfl) (by kernel_rfl) (by kernel_rfl) (sn_call (f := 32) (args := #[.agg #[.slice aD nD cD], .agg #[.int .i64 (xF : Int), .int .i64 (yF : Int)]]) (by kernel_rfl) ((rHas_c _ _ _ _ aaD hX78).mono ?_))
      rintro e w279 ⟨rfl, hb⟩
      replace hE := hE.trans hb
      replace hX78 := hX78.trans hb
      replace hX210 := hX210.trans hb
      replace hX241 := hX241.trans hb
      replace hX272 := hX272.trans hb
      have hs280 := hb.size
      clear hb
      refine ⟨_, rfl, ⟨(Bx hX241 bO219_0).1, (Bx hX272 bO250_0).1, (hX78.cell ceD), (hX78.cell cxF), (hX78.cell cyF)⟩, ?_⟩
      have hs9 := And.intro (BoxAt.ext hX241 bO219_0).1 (And.intro (BoxAt.ext hX272 bO250_0).1 (And.intro (hX78.cell ceD) (And.intro (hX78.cell cxF) (hX78.cell cyF))))
      refine wl 28 (.bool false) hR hs9 rfl (fun w _ => ev_bool (show _ = Result.ok (Next.value (Value.bool ((hasB lD xF yF) != (hasB lD xF yF)))) _ from by kernel_rfl) (by simp)) ?_
      refine wk 29 (.bool false) hR hs9 ?_
      refine wd_end hL hR hK (by kernel_rfl) ?_
      refine qw_then ?_
      refine cw_clean [13, 15, 17, 18, 27, 28, 290] (ws' := [(13, .pointer (some ⟨O13, 0, none⟩)), (15, .bool true), (17, .slice (some ⟨O64, 0, none⟩) 4 4), (18, .slice (some ⟨O74, 0, none⟩) 4 4), (27, .int .i64 (((ib : Nat) : Int) : Int)), (28, .int .i64 (((jb : Nat) : Int) : Int)), (290, .bool false)]) (by kernel_rfl) (fun L => ?_)
      refine cw_f (by kernel_rfl) ?_
      refine cw_skip ?_
      refine qw_block ?_
      refine qw_then ?_
      refine cw_plain ?_
      refine pk (.int .i64 (((jb : Nat) : Int) : Int)) ?_
      refine pl_take (.int .i64 (((jb + 1 : Nat) : Int) : Int)) rfl (by kernel_rfl) (by kernel_rfl) (by kernel_rfl) (ev_wrap (by kernel_rfl) (by omega) (by omega)) ?_
      refine pk (.int .i64 (((jb + 1 : Nat) : Int) : Int)) ?_
      refine pl_nil ?_
      refine qw_round [13, 15, 17, 18, 27, 28] (ws' := [(13, .pointer (some ⟨O13, 0, none⟩)), (15, .bool true), (17, .slice (some ⟨O64, 0, none⟩) 4 4), (18, .slice (some ⟨O74, 0, none⟩) 4 4), (27, .int .i64 (((ib : Nat) : Int) : Int)), (28, .int .i64 (((jb + 1 : Nat) : Int) : Int))]) (by kernel_rfl) _ ?_ ⟨(jb + 1), rfl, rfl, (tr hs207 (tr hn238 (tr hn269 (tr hs274 (tr hs276 (tr hs278 hs280)))))), hE, hX78, by omega⟩
      omega
   ·
    refine cw_seq ?_
    refine cw_seq ?_
    refine cw_plain ?_
    refine pk (.int .i64 (((jb : Nat) : Int) : Int)) ?_
    refine pk (.slice (some ⟨O74, 0, none⟩) 4 4) ?_
    refine pk (.int .i64 4) ?_
    refine pl_take (.bool false) rfl (by kernel_rfl) (by kernel_rfl) (by kernel_rfl) (ev_ndec (show _ = Result.ok (Next.value (Value.bool (decide ((((jb : Nat) : Int) : Int) < (4 : Int))))) _ from by kernel_rfl) (by omega)) ?_
    refine pl_nil ?_
    refine qw_then ?_
    refine cw_f (by kernel_rfl) ?_
    refine cw_exit ?_
    refine qw_then_exit ?_
    refine qw_then_exit ?_
    refine qw_block_out ?_
    refine qw_then ?_
    refine cw_seq ?_
    refine cw_seq ?_
    refine cw_draw [(some 291, [13], []), (some 292, [291], [0]), (some 293, [13], []), (some 294, [293], [2]), (some 295, [292, 294], [1, 3]), (some 296, [13], []), (some 297, [296], [5]), (some 298, [297], [6]), (some 299, [298], [7]), (some 300, [13], []), (some 301, [300], [9]), (some 302, [301], [10, 7]), (some 303, [299, 302], [8, 11]), (some 304, [295, 303], [4, 12]), (some 305, [304], [13]), (some 306, [], [])] (fun w' => w'.cell? ⟨O13, 0, none⟩ = some (.int .i64 (m0 : Int)) ∧ w'.cell? ⟨O13, 1, none⟩ = some (.int .i64 (m1 : Int))) (by kernel_rfl) (by kernel_rfl) (by kernel_rfl) (by kernel_rfl) ((calm_then (calm_then (calm_block (calm_then (calm_then (calm_block (calm_then calm_body)))))))) (⟨(Bx hX78 bO13_0).1, (Bx hX78 bO13_1).1⟩) (fun ops Q X281 hb hL hR hK => ?_)
    replace hE := hE.trans hb
    replace hX78 := hX78.trans hb
    have hs282 := hb.size
    clear hb
    have hs9 := And.intro (BoxAt.ext hX78 bO13_0).1 (BoxAt.ext hX78 bO13_1).1
    refine wk 0 (.pointer (some ⟨O13, 0, none⟩)) hR hs9 ?_
    refine wl 1 (.int .i64 (m0 : Int)) hR hs9 rfl (fun w hS => ex_load rfl (by kernel_rfl) (ld3 (hS.1))) ?_
    refine wk 2 (.pointer (some ⟨O13, 1, none⟩)) hR hs9 ?_
    refine wl 3 (.int .i64 (m1 : Int)) hR hs9 rfl (fun w hS => ex_load rfl (by kernel_rfl) (ld3 (hS.2))) ?_
    refine wl 4 (.agg #[.int .i64 (m0 : Int), .int .i64 (m1 : Int)]) hR hs9 rfl (fun w _ => by kernel_rfl) ?_
    refine wk 5 (.pointer (some ⟨O13, 0, none⟩)) hR hs9 ?_
    refine wl 6 (.int .i64 (m0 : Int)) hR hs9 rfl (fun w hS => ex_load rfl (by kernel_rfl) (ld3 (hS.1))) ?_
    refine wk 9 (.pointer (some ⟨O13, 1, none⟩)) hR hs9 ?_
    refine wl 10 (.int .i64 (m1 : Int)) hR hs9 rfl (fun w hS => ex_load rfl (by kernel_rfl) (ld3 (hS.2))) ?_
    refine wk 15 (.int .i64 0) hR hs9 ?_
    refine wd_step 7 hR rfl (by kernel_rfl) (by kernel_rfl) (by kernel_rfl) (sn_call (f := 12) (args := #[.int .i64 (m0 : Int), .int .i64 100]) (by kernel_rfl) ((pickN_c _ 100 _ j0 (by omega) (by omega)).mono ?_))
    rintro e w' ⟨pk283, rfl, pk283l, -, rfl⟩
    refine ⟨_, rfl, ⟨(Bx hX78 bO13_0).1, (Bx hX78 bO13_1).1⟩, ?_⟩
    refine wl 8 (.int .i64 (((pk283 : Nat) : Int) - 50 : Int)) hR (⟨(Bx hX78 bO13_0).1, (Bx hX78 bO13_1).1⟩) rfl (fun w _ => ev_wrap (a := ((pk283 : Nat) : Int) - 50) (by kernel_rfl) (by omega) (by omega)) ?_
    refine wd_step 11 hR rfl (by kernel_rfl) (by kernel_rfl) (by kernel_rfl) (sn_call (f := 12) (args := #[.int .i64 (m1 : Int), .int .i64 25]) (by kernel_rfl) ((pickN_c _ 25 _ j1 (by omega) (by omega)).mono ?_))
    rintro e w' ⟨pk284, rfl, pk284l, -, rfl⟩
    refine ⟨_, rfl, ⟨(Bx hX78 bO13_0).1, (Bx hX78 bO13_1).1⟩, ?_⟩
    refine wl 12 (.agg #[.int .i64 (((pk283 : Nat) : Int) - 50 : Int), .int .i64 (((pk284 : Nat) : Int) : Int)]) hR (⟨(Bx hX78 bO13_0).1, (Bx hX78 bO13_1).1⟩) rfl (fun w _ => by kernel_rfl) ?_
    refine wd_step 13 hR rfl (by kernel_rfl) (by kernel_rfl) (by kernel_rfl) (sn_newS (us := #[.int .i64 (m0 : Int), .int .i64 (m1 : Int), .int .i64 (((pk283 : Nat) : Int) - 50 : Int), .int .i64 (((pk284 : Nat) : Int) : Int)]) (t := 35) (k := 2) (c := 2) (by kernel_rfl) ?_)
    intro O285 X286 hO hOs hb hbx
    have hzO285 := hO; have hyO285 := hOs; clear hO hOs
    have bO285_0 : BoxAt X286 O285 0 (.int .i64 (m0 : Int)) := hbx 0 _ rfl
    have bO285_1 : BoxAt X286 O285 1 (.int .i64 (m1 : Int)) := hbx 1 _ rfl
    have bO285_2 : BoxAt X286 O285 2 (.int .i64 (((pk283 : Nat) : Int) - 50 : Int)) := hbx 2 _ rfl
    have bO285_3 : BoxAt X286 O285 3 (.int .i64 (((pk284 : Nat) : Int) : Int)) := hbx 3 _ rfl
    clear hbx
    replace hE := hE.trans hb
    replace hX78 := hX78.trans hb
    have hs287 := hb.size
    clear hb
    have lt288 := bO285_0.lt
    refine ⟨⟨(Bx hX78 bO13_0).1, (Bx hX78 bO13_1).1⟩, ?_⟩
    refine wl 14 (.int .i64 2) hR (⟨(Bx hX78 bO13_0).1, (Bx hX78 bO13_1).1⟩) rfl (fun w _ => by kernel_rfl) ?_
    refine wd_end hL hR hK (by kernel_rfl) ?_
    refine qw_then ?_
    refine cw_clean [13, 15, 17, 18, 27, 304, 305, 306] (ws' := [(13, .pointer (some ⟨O13, 0, none⟩)), (15, .bool true), (17, .slice (some ⟨O64, 0, none⟩) 4 4), (18, .slice (some ⟨O74, 0, none⟩) 4 4), (27, .int .i64 (((ib : Nat) : Int) : Int)), (304, .slice (some ⟨O285, 0, none⟩) 2 2), (305, .int .i64 2), (306, .int .i64 0)]) (by kernel_rfl) (fun L => ?_)
    refine cw_block ?_
    have hX289 : Ext X286 X286 := Ext.refl _
    have hGG : ∀ k, k < 2 → ∃ u v : Int, X286.cell? ⟨O285, k * 2, none⟩ = some (.int .i64 u) ∧ X286.cell? ⟨O285, k * 2 + 1, none⟩ = some (.int .i64 v) := fun k hk => by
     match k, hk with
     | 0, _ => exact ⟨_, _, bO285_0.1, bO285_1.1⟩
     | 1, _ => exact ⟨_, _, bO285_2.1, bO285_3.1⟩
     | _ + 2, h => omega
    refine cw_loop [13, 15, 17, 18, 27, 304, 305, 306] (fun ws' wr m => ∃ kb : Nat, ws' = [(13, .pointer (some ⟨O13, 0, none⟩)), (15, .bool true), (17, .slice (some ⟨O64, 0, none⟩) 4 4), (18, .slice (some ⟨O74, 0, none⟩) 4 4), (27, .int .i64 (((ib : Nat) : Int) : Int)), (304, .slice (some ⟨O285, 0, none⟩) 2 2), (305, .int .i64 2), (306, .int .i64 (((kb : Nat) : Int) : Int))] ∧ m = 2 - kb ∧ X286.heap.size ≤ wr.heap.size ∧ Ext w wr ∧ Ext X75 wr ∧ Ext X286 wr ∧ kb ≤ 2) (ws0 := [(13, .pointer (some ⟨O13, 0, none⟩)), (15, .bool true), (17, .slice (some ⟨O64, 0, none⟩) 4 4), (18, .slice (some ⟨O74, 0, none⟩) 4 4), (27, .int .i64 (((ib : Nat) : Int) : Int)), (304, .slice (some ⟨O285, 0, none⟩) 2 2), (305, .int .i64 2), (306, .int .i64 0)]) (by kernel_rfl) _ ⟨0, rfl, rfl, Nat.le_refl _, hE, hX78, hX289, by omega⟩ ?_
    clear hE hX78 hX289
    rintro m292 L ws w291 ⟨kb, rfl, rfl, hs290, hE, hX78, hX289, hikb⟩
    by_cases hlt : kb < 2
    ·
     obtain ⟨uG, zG, guG, gzG⟩ := hGG kb hlt
     refine cw_seq ?_
     refine cw_plain ?_
     refine pl_take (.bool true) rfl (by kernel_rfl) (by kernel_rfl) (by kernel_rfl) (ev_dec (show _ = Result.ok (Next.value (Value.bool (decide ((((kb : Nat) : Int) : Int) < (2 : Int))))) _ from by kernel_rfl) (by omega)) ?_
     refine pl_nil ?_
     refine qw_then ?_
     refine cw_seq ?_
     refine cw_t (by kernel_rfl) ?_
     refine cw_skip ?_
     refine qw_then ?_
     refine cw_seq ?_
     refine cw_block ?_
     refine cw_seq ?_
     refine cw_plain ?_
     refine pl_take (.pointer (some ⟨O285, kb * 2, none⟩)) rfl (by kernel_rfl) (by kernel_rfl) (by kernel_rfl) (ex_index (p := .slice (some ⟨O285, 0, none⟩) 2 2) (i := .int .i64 ((kb : Nat) : Int)) rfl (by kernel_rfl) (by kernel_rfl) (ix39z (k := kb) (by omega))) ?_
     refine pl_take (.agg #[.int .i64 (uG : Int), .int .i64 (zG : Int)]) rfl (by kernel_rfl) (by kernel_rfl) (by kernel_rfl) (ex_load rfl (by kernel_rfl) (ld35 ((hX289.cell guG)) ((hX289.cell gzG)))) ?_
     refine pl_step rfl (by kernel_rfl) (by kernel_rfl) (by kernel_rfl) (sn_new (us := #[.int .i64 0, .int .i64 0]) (t := 35) (by kernel_rfl) ?_)
     intro O293 X294 hO hOs hb hbx
     have hzO293 := hO; have hyO293 := hOs; clear hO hOs
     have bO293_0 : BoxAt X294 O293 0 (.int .i64 0) := hbx 0 _ rfl
     have bO293_1 : BoxAt X294 O293 1 (.int .i64 0) := hbx 1 _ rfl
     clear hbx
     replace hE := hE.trans hb
     replace hX78 := hX78.trans hb
     replace hX289 := hX289.trans hb
     have hs295 := hb.size
     clear hb
     have lt296 := bO293_0.lt
     refine pl_put rfl (by kernel_rfl) (by kernel_rfl) (sn_set2 (O := O293) (j := 0) (v := .int .i64 (uG : Int)) (v' := .int .i64 (zG : Int)) (ex_store (p := .pointer (some ⟨O293, 0, none⟩)) (v := .agg #[.int .i64 (uG : Int), .int .i64 (zG : Int)]) rfl (by kernel_rfl) (by kernel_rfl) (st35 bO293_0.1 bO293_0.2 bO293_1.1 bO293_1.2)) bO293_0 bO293_1 ?_)
     intro X297 ho hv0 hv1 hk
     replace hE := ho.ext hE (tr (tr hs3 (tr hs7 (tr hs11 (tr hs15 (tr hs18 (tr hs26 (tr hs31 (tr hs34 (tr hs36 (tr hs39 (tr hs41 (tr hs49 (tr hs59 (tr hs63 (tr hs66 (tr hs69 (tr hs71 (tr hs73 (tr hs76 (tr hs79 (tr hs180 (tr hs184 (tr hs186 (tr hs188 (tr hs190 (tr hs192 (tr hs197 (tr hs203 (tr hs206 (tr hs207 (tr hs282 (tr hs287 hs290)))))))))))))))))))))))))))))))) (Nat.le_of_eq hzO293))
     replace hX78 := ho.ext hX78 (tr (tr hs79 (tr hs180 (tr hs184 (tr hs186 (tr hs188 (tr hs190 (tr hs192 (tr hs197 (tr hs203 (tr hs206 (tr hs207 (tr hs282 (tr hs287 hs290))))))))))))) (Nat.le_of_eq hzO293))
     replace hX289 := ho.ext hX289 (tr hs290 (Nat.le_of_eq hzO293))
     have hs298 : X294.heap.size ≤ X297.heap.size := Nat.le_of_eq ho.size.symm
     clear ho hk bO293_0 bO293_1
     have bO293_0 := hv0; clear hv0
     have bO293_1 := hv1; clear hv1
     refine pl_nil ?_
     refine qw_then ?_
     refine cw_seq ?_
     have hX299 : Ext X297 X297 := Ext.refl _
     refine cw_join (fun ws' Y => ∃ ra302 : Option Addr, ∃ rk303 : Nat, ∃ O308 : Nat, ws' = [(13, .pointer (some ⟨O13, 0, none⟩)), (15, .bool true), (17, .slice (some ⟨O64, 0, none⟩) 4 4), (18, .slice (some ⟨O74, 0, none⟩) 4 4), (27, .int .i64 (((ib : Nat) : Int) : Int)), (34, .pointer (some ⟨O293, 0, none⟩)), (35, .pointer (some ⟨O308, 0, none⟩)), (36, .int .i64 (orE vD 50 : Int)), (304, .slice (some ⟨O285, 0, none⟩) 2 2), (305, .int .i64 2), (306, .int .i64 (((kb : Nat) : Int) : Int))] ∧ Ext w Y ∧ Ext X75 Y ∧ Ext X286 Y ∧ Ext X297 Y ∧ IntsAt Y ra302 ((orL vD (Globe.shiftL lD (modN (uG))))) ∧ BoxAt Y O308 0 (.slice ra302 ((orL vD (Globe.shiftL lD (modN (uG)))).length) rk303) ∧ X297.heap.size ≤ Y.heap.size ∧ X297.heap.size ≤ O308) (fun hJ => ?_) ?_
     ·
      refine cw_draw [(some 311, [17], []), (some 312, [27], []), (some 313, [311, 312], [0, 1]), (some 314, [313], [2]), (some 315, [34], []), (some 316, [315], [4]), (some 317, [314, 316], [3, 5]), (some 310, [317], [6]), (some 318, [310], [7]), (some 319, [310], [7]), (some 35, [], []), (none, [35, 318], [10, 8, 6, 0, 1, 2, 3, 4, 5, 6, 7, 8, 10]), (some 36, [319], [9, 11, 0, 1, 2, 3, 4, 5, 6, 7, 8, 9, 10, 11])] (fun w' => w'.cell? ⟨O64, ib, none⟩ = some (.slice aD nD cD) ∧ w'.cell? ⟨O293, 0, none⟩ = some (.int .i64 (uG : Int))) (by kernel_rfl) (by kernel_rfl) (by kernel_rfl) (by kernel_rfl) ((calm_then (calm_block (calm_then (calm_then (calm_block (calm_then (calm_block (calm_then (calm_then (calm_block (calm_then calm_body)))))))))))) (⟨(hX78.cell ceD), bO293_0.1⟩) (fun ops Q X300 hb hL hR hK => ?_)
      replace hE := hE.trans hb
      replace hX78 := hX78.trans hb
      replace hX289 := hX289.trans hb
      replace hX299 := hX299.trans hb
      have hs301 := hb.size
      clear hb
      have hs9 := And.intro (hX78.cell ceD) (BoxAt.ext hX299 bO293_0).1
      refine wk 0 (.slice (some ⟨O64, 0, none⟩) 4 4) hR hs9 ?_
      refine wk 1 (.int .i64 (((ib : Nat) : Int) : Int)) hR hs9 ?_
      refine wl 2 (.pointer (some ⟨O64, ib, none⟩)) hR hs9 rfl (fun w _ => ex_index (p := .slice (some ⟨O64, 0, none⟩) 4 4) (i := .int .i64 ((ib : Nat) : Int)) rfl (by kernel_rfl) (by kernel_rfl) (ix33z (k := ib) (by omega))) ?_
      refine wl 3 (.agg #[.slice aD nD cD]) hR hs9 rfl (fun w hS => ex_load rfl (by kernel_rfl) (ld25 (hS.1))) ?_
      refine wk 4 (.pointer (some ⟨O293, 0, none⟩)) hR hs9 ?_
      refine wl 5 (.int .i64 (uG : Int)) hR hs9 rfl (fun w hS => ex_load rfl (by kernel_rfl) (ld3 (hS.2))) ?_
      refine wd_two 6 10 hR rfl rfl (by kernel_rfl) (by kernel_rfl) (by kernel_rfl) (by kernel_rfl) ?_ ?_
      ·
       refine sn_call (f := 33) (args := #[.agg #[.slice aD nD cD], .int .i64 (uG : Int)]) (by kernel_rfl) ((Shifted_c _ _ _ aaD hX78).mono ?_)
       rintro e w306 ⟨ra302, rk303, rfl, hR304, hb, hfr305⟩
       replace hE := hE.trans hb
       replace hX78 := hX78.trans hb
       replace hX289 := hX289.trans hb
       replace hX299 := hX299.trans hb
       have hs307 := hb.size
       clear hb
       refine ⟨_, rfl, ⟨(hX78.cell ceD), (Bx hX299 bO293_0).1⟩, ?_⟩
       have hs9 := And.intro (hX78.cell ceD) (BoxAt.ext hX299 bO293_0).1
       refine wk 7 (.tuple #[.agg #[.slice ra302 ((orL vD (Globe.shiftL lD (modN (uG)))).length) rk303], .int .i64 (orE vD 50 : Int)]) hR hs9 ?_
       refine wl 8 (.agg #[.slice ra302 ((orL vD (Globe.shiftL lD (modN (uG)))).length) rk303]) hR hs9 rfl (fun w _ => by kernel_rfl) ?_
       refine wk 9 (.int .i64 (orE vD 50 : Int)) hR hs9 ?_
       refine wd_step 10 hR rfl (by kernel_rfl) (by kernel_rfl) (by kernel_rfl) (sn_new (us := #[.slice none 0 0]) (t := 25) (by kernel_rfl) ?_)
       intro O308 X309 hO hOs hb hbx
       have hzO308 := hO; have hyO308 := hOs; clear hO hOs
       have bO308_0 : BoxAt X309 O308 0 (.slice none 0 0) := hbx 0 _ rfl
       clear hbx
       replace hE := hE.trans hb
       replace hX78 := hX78.trans hb
       replace hX289 := hX289.trans hb
       replace hX299 := hX299.trans hb
       replace hR304 := hR304.ext hb
       have hs310 := hb.size
       clear hb
       have lt311 := bO308_0.lt
       refine ⟨⟨(hX78.cell ceD), (Bx hX299 bO293_0).1⟩, ?_⟩
       refine wd_step 11 hR rfl (by kernel_rfl) (by kernel_rfl) (by kernel_rfl) (sn_set (O := O308) (j := 0) (v := .slice ra302 ((orL vD (Globe.shiftL lD (modN (uG)))).length) rk303) (ex_store (p := .pointer (some ⟨O308, 0, none⟩)) (v := .agg #[.slice ra302 ((orL vD (Globe.shiftL lD (modN (uG)))).length) rk303]) rfl (by kernel_rfl) (by kernel_rfl) (st25 bO308_0.1 bO308_0.2)) bO308_0 ?_)
       intro X312 ho hv0 hk
       replace hE := ho.ext hE (tr (tr hs3 (tr hs7 (tr hs11 (tr hs15 (tr hs18 (tr hs26 (tr hs31 (tr hs34 (tr hs36 (tr hs39 (tr hs41 (tr hs49 (tr hs59 (tr hs63 (tr hs66 (tr hs69 (tr hs71 (tr hs73 (tr hs76 (tr hs79 (tr hs180 (tr hs184 (tr hs186 (tr hs188 (tr hs190 (tr hs192 (tr hs197 (tr hs203 (tr hs206 (tr hs207 (tr hs282 (tr hs287 (tr hs290 (tr hs295 (tr hs298 (tr hs301 hs307)))))))))))))))))))))))))))))))))))) (Nat.le_of_eq hzO308))
       replace hX78 := ho.ext hX78 (tr (tr hs79 (tr hs180 (tr hs184 (tr hs186 (tr hs188 (tr hs190 (tr hs192 (tr hs197 (tr hs203 (tr hs206 (tr hs207 (tr hs282 (tr hs287 (tr hs290 (tr hs295 (tr hs298 (tr hs301 hs307))))))))))))))))) (Nat.le_of_eq hzO308))
       replace hX289 := ho.ext hX289 (tr (tr hs290 (tr hs295 (tr hs298 (tr hs301 hs307)))) (Nat.le_of_eq hzO308))
       replace hX299 := ho.ext hX299 (tr (tr hs301 hs307) (Nat.le_of_eq hzO308))
       replace hR304 := ho.ints (fun ad e => Nat.ne_of_lt (Nat.lt_of_lt_of_le (hfr305 ad e).2 (Nat.le_of_eq hzO308))) hR304
       have hs313 : X309.heap.size ≤ X312.heap.size := Nat.le_of_eq ho.size.symm
       clear ho hk bO308_0
       have bO308_0 := hv0; clear hv0
       refine ⟨⟨(hX78.cell ceD), (Bx hX299 bO293_0).1⟩, ?_⟩
       refine wk 12 (.int .i64 (orE vD 50 : Int)) hR (⟨(hX78.cell ceD), (Bx hX299 bO293_0).1⟩) ?_
       refine wd_end hL hR hK (by kernel_rfl) ?_
       exact qw_leaf hJ [13, 15, 17, 18, 27, 34, 35, 36, 304, 305, 306] (ws' := [(13, .pointer (some ⟨O13, 0, none⟩)), (15, .bool true), (17, .slice (some ⟨O64, 0, none⟩) 4 4), (18, .slice (some ⟨O74, 0, none⟩) 4 4), (27, .int .i64 (((ib : Nat) : Int) : Int)), (34, .pointer (some ⟨O293, 0, none⟩)), (35, .pointer (some ⟨O308, 0, none⟩)), (36, .int .i64 (orE vD 50 : Int)), (304, .slice (some ⟨O285, 0, none⟩) 2 2), (305, .int .i64 2), (306, .int .i64 (((kb : Nat) : Int) : Int))]) (by kernel_rfl) ⟨ra302, rk303, O308, rfl, hE, hX78, hX289, hX299, hR304, bO308_0, (tr hs301 (tr hs307 (tr hs310 hs313))), (tr (tr hs301 hs307) (Nat.le_of_eq hzO308))⟩
      ·
       refine sn_new (us := #[.slice none 0 0]) (t := 25) (by kernel_rfl) ?_
       intro O314 X315 hO hOs hb hbx
       have hzO314 := hO; have hyO314 := hOs; clear hO hOs
       have bO314_0 : BoxAt X315 O314 0 (.slice none 0 0) := hbx 0 _ rfl
       clear hbx
       replace hE := hE.trans hb
       replace hX78 := hX78.trans hb
       replace hX289 := hX289.trans hb
       replace hX299 := hX299.trans hb
       have hs316 := hb.size
       clear hb
       have lt317 := bO314_0.lt
       refine ⟨⟨(hX78.cell ceD), (Bx hX299 bO293_0).1⟩, ?_⟩
       refine wd_step 6 hR rfl (by kernel_rfl) (by kernel_rfl) (by kernel_rfl) (sn_call (f := 33) (args := #[.agg #[.slice aD nD cD], .int .i64 (uG : Int)]) (by kernel_rfl) ((Shifted_c _ _ _ aaD hX78).mono ?_))
       rintro e w322 ⟨ra318, rk319, rfl, hR320, hb, hfr321⟩
       replace hE := hE.trans hb
       replace hX78 := hX78.trans hb
       replace hX289 := hX289.trans hb
       replace hX299 := hX299.trans hb
       replace bO314_0 := Bx hb bO314_0
       have hs323 := hb.size
       clear hb
       refine ⟨_, rfl, ⟨(hX78.cell ceD), (Bx hX299 bO293_0).1⟩, ?_⟩
       have hs9 := And.intro (hX78.cell ceD) (BoxAt.ext hX299 bO293_0).1
       refine wk 7 (.tuple #[.agg #[.slice ra318 ((orL vD (Globe.shiftL lD (modN (uG)))).length) rk319], .int .i64 (orE vD 50 : Int)]) hR hs9 ?_
       refine wl 8 (.agg #[.slice ra318 ((orL vD (Globe.shiftL lD (modN (uG)))).length) rk319]) hR hs9 rfl (fun w _ => by kernel_rfl) ?_
       refine wk 9 (.int .i64 (orE vD 50 : Int)) hR hs9 ?_
       refine wd_step 11 hR rfl (by kernel_rfl) (by kernel_rfl) (by kernel_rfl) (sn_set (O := O314) (j := 0) (v := .slice ra318 ((orL vD (Globe.shiftL lD (modN (uG)))).length) rk319) (ex_store (p := .pointer (some ⟨O314, 0, none⟩)) (v := .agg #[.slice ra318 ((orL vD (Globe.shiftL lD (modN (uG)))).length) rk319]) rfl (by kernel_rfl) (by kernel_rfl) (st25 bO314_0.1 bO314_0.2)) bO314_0 ?_)
       intro X324 ho hv0 hk
       replace hE := ho.ext hE (tr (tr hs3 (tr hs7 (tr hs11 (tr hs15 (tr hs18 (tr hs26 (tr hs31 (tr hs34 (tr hs36 (tr hs39 (tr hs41 (tr hs49 (tr hs59 (tr hs63 (tr hs66 (tr hs69 (tr hs71 (tr hs73 (tr hs76 (tr hs79 (tr hs180 (tr hs184 (tr hs186 (tr hs188 (tr hs190 (tr hs192 (tr hs197 (tr hs203 (tr hs206 (tr hs207 (tr hs282 (tr hs287 (tr hs290 (tr hs295 (tr hs298 hs301))))))))))))))))))))))))))))))))))) (Nat.le_of_eq hzO314))
       replace hX78 := ho.ext hX78 (tr (tr hs79 (tr hs180 (tr hs184 (tr hs186 (tr hs188 (tr hs190 (tr hs192 (tr hs197 (tr hs203 (tr hs206 (tr hs207 (tr hs282 (tr hs287 (tr hs290 (tr hs295 (tr hs298 hs301)))))))))))))))) (Nat.le_of_eq hzO314))
       replace hX289 := ho.ext hX289 (tr (tr hs290 (tr hs295 (tr hs298 hs301))) (Nat.le_of_eq hzO314))
       replace hX299 := ho.ext hX299 (tr hs301 (Nat.le_of_eq hzO314))
       replace hR320 := ho.ints (fun ad e => Nat.ne_of_gt (Nat.lt_of_lt_of_le lt317 (tr (Nat.le_refl _) (hfr321 ad e).1))) hR320
       have hs325 : w322.heap.size ≤ X324.heap.size := Nat.le_of_eq ho.size.symm
       clear ho hk bO314_0
       have bO314_0 := hv0; clear hv0
       refine ⟨⟨(hX78.cell ceD), (Bx hX299 bO293_0).1⟩, ?_⟩
       refine wk 12 (.int .i64 (orE vD 50 : Int)) hR (⟨(hX78.cell ceD), (Bx hX299 bO293_0).1⟩) ?_
       refine wd_end hL hR hK (by kernel_rfl) ?_
       exact qw_leaf hJ [13, 15, 17, 18, 27, 34, 35, 36, 304, 305, 306] (ws' := [(13, .pointer (some ⟨O13, 0, none⟩)), (15, .bool true), (17, .slice (some ⟨O64, 0, none⟩) 4 4), (18, .slice (some ⟨O74, 0, none⟩) 4 4), (27, .int .i64 (((ib : Nat) : Int) : Int)), (34, .pointer (some ⟨O293, 0, none⟩)), (35, .pointer (some ⟨O314, 0, none⟩)), (36, .int .i64 (orE vD 50 : Int)), (304, .slice (some ⟨O285, 0, none⟩) 2 2), (305, .int .i64 2), (306, .int .i64 (((kb : Nat) : Int) : Int))]) (by kernel_rfl) ⟨ra318, rk319, O314, rfl, hE, hX78, hX289, hX299, hR320, bO314_0, (tr hs301 (tr hs316 (tr hs323 hs325))), (tr hs301 (Nat.le_of_eq hzO314))⟩
     ·
      clear hE hX78 hX289 hX299
      rintro L ws Y326 ⟨ra302, rk303, O308, rfl, hE, hX78, hX289, hX299, hR304, bO308_0, hn327, hn328⟩
      have lt329 := bO308_0.lt
      refine qw_then ?_
      refine cw_seq ?_
      have hX330 : Ext Y326 Y326 := Ext.refl _
      refine cw_join (fun ws' Y => ∃ ra333 : Option Addr, ∃ rk334 : Nat, ∃ O339 : Nat, ws' = [(13, .pointer (some ⟨O13, 0, none⟩)), (15, .bool true), (17, .slice (some ⟨O64, 0, none⟩) 4 4), (18, .slice (some ⟨O74, 0, none⟩) 4 4), (27, .int .i64 (((ib : Nat) : Int) : Int)), (34, .pointer (some ⟨O293, 0, none⟩)), (35, .pointer (some ⟨O308, 0, none⟩)), (36, .int .i64 (orE vD 50 : Int)), (37, .pointer (some ⟨O339, 0, none⟩)), (38, .int .i64 (orE vD 50 : Int)), (304, .slice (some ⟨O285, 0, none⟩) 2 2), (305, .int .i64 2), (306, .int .i64 (((kb : Nat) : Int) : Int))] ∧ Ext w Y ∧ Ext X75 Y ∧ Ext X286 Y ∧ Ext X297 Y ∧ Ext Y326 Y ∧ IntsAt Y ra333 ((orL vD (Globe.shiftL lD (modN (uG))))) ∧ BoxAt Y O339 0 (.slice ra333 ((orL vD (Globe.shiftL lD (modN (uG)))).length) rk334) ∧ Y326.heap.size ≤ Y.heap.size ∧ Y326.heap.size ≤ O339) (fun hJ => ?_) ?_
      ·
       refine cw_draw [(some 321, [17], []), (some 322, [27], []), (some 323, [321, 322], [0, 1]), (some 324, [323], [2]), (some 325, [34], []), (some 326, [325], [4]), (some 327, [324, 326], [3, 5]), (some 320, [327], [6]), (some 328, [320], [7]), (some 329, [320], [7]), (some 37, [], []), (none, [37, 328], [10, 8, 6, 0, 1, 2, 3, 4, 5, 6, 7, 8, 10]), (some 38, [329], [9, 11, 0, 1, 2, 3, 4, 5, 6, 7, 8, 9, 10, 11])] (fun w' => w'.cell? ⟨O64, ib, none⟩ = some (.slice aD nD cD) ∧ w'.cell? ⟨O293, 0, none⟩ = some (.int .i64 (uG : Int))) (by kernel_rfl) (by kernel_rfl) (by kernel_rfl) (by kernel_rfl) ((calm_then (calm_block (calm_then (calm_then (calm_block (calm_then (calm_block (calm_then (calm_then (calm_block (calm_then calm_body)))))))))))) (⟨(hX78.cell ceD), (Bx hX299 bO293_0).1⟩) (fun ops Q X331 hb hL hR hK => ?_)
       replace hE := hE.trans hb
       replace hX78 := hX78.trans hb
       replace hX289 := hX289.trans hb
       replace hX299 := hX299.trans hb
       replace hX330 := hX330.trans hb
       have hs332 := hb.size
       clear hb
       have hs9 := And.intro (hX78.cell ceD) (BoxAt.ext hX299 bO293_0).1
       refine wk 0 (.slice (some ⟨O64, 0, none⟩) 4 4) hR hs9 ?_
       refine wk 1 (.int .i64 (((ib : Nat) : Int) : Int)) hR hs9 ?_
       refine wl 2 (.pointer (some ⟨O64, ib, none⟩)) hR hs9 rfl (fun w _ => ex_index (p := .slice (some ⟨O64, 0, none⟩) 4 4) (i := .int .i64 ((ib : Nat) : Int)) rfl (by kernel_rfl) (by kernel_rfl) (ix33z (k := ib) (by omega))) ?_
       refine wl 3 (.agg #[.slice aD nD cD]) hR hs9 rfl (fun w hS => ex_load rfl (by kernel_rfl) (ld25 (hS.1))) ?_
       refine wk 4 (.pointer (some ⟨O293, 0, none⟩)) hR hs9 ?_
       refine wl 5 (.int .i64 (uG : Int)) hR hs9 rfl (fun w hS => ex_load rfl (by kernel_rfl) (ld3 (hS.2))) ?_
       refine wd_two 6 10 hR rfl rfl (by kernel_rfl) (by kernel_rfl) (by kernel_rfl) (by kernel_rfl) ?_ ?_
       ·
        refine sn_call (f := 34) (args := #[.agg #[.slice aD nD cD], .int .i64 (uG : Int)]) (by kernel_rfl) ((rShifted_c _ _ _ aaD hX78).mono ?_)
        rintro e w337 ⟨ra333, rk334, rfl, hR335, hb, hfr336⟩
        replace hE := hE.trans hb
        replace hX78 := hX78.trans hb
        replace hX289 := hX289.trans hb
        replace hX299 := hX299.trans hb
        replace hX330 := hX330.trans hb
        have hs338 := hb.size
        clear hb
        refine ⟨_, rfl, ⟨(hX78.cell ceD), (Bx hX299 bO293_0).1⟩, ?_⟩
        have hs9 := And.intro (hX78.cell ceD) (BoxAt.ext hX299 bO293_0).1
        refine wk 7 (.tuple #[.agg #[.slice ra333 ((orL vD (Globe.shiftL lD (modN (uG)))).length) rk334], .int .i64 (orE vD 50 : Int)]) hR hs9 ?_
        refine wl 8 (.agg #[.slice ra333 ((orL vD (Globe.shiftL lD (modN (uG)))).length) rk334]) hR hs9 rfl (fun w _ => by kernel_rfl) ?_
        refine wk 9 (.int .i64 (orE vD 50 : Int)) hR hs9 ?_
        refine wd_step 10 hR rfl (by kernel_rfl) (by kernel_rfl) (by kernel_rfl) (sn_new (us := #[.slice none 0 0]) (t := 25) (by kernel_rfl) ?_)
        intro O339 X340 hO hOs hb hbx
        have hzO339 := hO; have hyO339 := hOs; clear hO hOs
        have bO339_0 : BoxAt X340 O339 0 (.slice none 0 0) := hbx 0 _ rfl
        clear hbx
        replace hE := hE.trans hb
        replace hX78 := hX78.trans hb
        replace hX289 := hX289.trans hb
        replace hX299 := hX299.trans hb
        replace hX330 := hX330.trans hb
        replace hR335 := hR335.ext hb
        have hs341 := hb.size
        clear hb
        have lt342 := bO339_0.lt
        refine ⟨⟨(hX78.cell ceD), (Bx hX299 bO293_0).1⟩, ?_⟩
        refine wd_step 11 hR rfl (by kernel_rfl) (by kernel_rfl) (by kernel_rfl) (sn_set (O := O339) (j := 0) (v := .slice ra333 ((orL vD (Globe.shiftL lD (modN (uG)))).length) rk334) (ex_store (p := .pointer (some ⟨O339, 0, none⟩)) (v := .agg #[.slice ra333 ((orL vD (Globe.shiftL lD (modN (uG)))).length) rk334]) rfl (by kernel_rfl) (by kernel_rfl) (st25 bO339_0.1 bO339_0.2)) bO339_0 ?_)
        intro X343 ho hv0 hk
        replace hE := ho.ext hE (tr (tr hs3 (tr hs7 (tr hs11 (tr hs15 (tr hs18 (tr hs26 (tr hs31 (tr hs34 (tr hs36 (tr hs39 (tr hs41 (tr hs49 (tr hs59 (tr hs63 (tr hs66 (tr hs69 (tr hs71 (tr hs73 (tr hs76 (tr hs79 (tr hs180 (tr hs184 (tr hs186 (tr hs188 (tr hs190 (tr hs192 (tr hs197 (tr hs203 (tr hs206 (tr hs207 (tr hs282 (tr hs287 (tr hs290 (tr hs295 (tr hs298 (tr hn327 (tr hs332 hs338))))))))))))))))))))))))))))))))))))) (Nat.le_of_eq hzO339))
        replace hX78 := ho.ext hX78 (tr (tr hs79 (tr hs180 (tr hs184 (tr hs186 (tr hs188 (tr hs190 (tr hs192 (tr hs197 (tr hs203 (tr hs206 (tr hs207 (tr hs282 (tr hs287 (tr hs290 (tr hs295 (tr hs298 (tr hn327 (tr hs332 hs338)))))))))))))))))) (Nat.le_of_eq hzO339))
        replace hX289 := ho.ext hX289 (tr (tr hs290 (tr hs295 (tr hs298 (tr hn327 (tr hs332 hs338))))) (Nat.le_of_eq hzO339))
        replace hX299 := ho.ext hX299 (tr (tr hn327 (tr hs332 hs338)) (Nat.le_of_eq hzO339))
        replace hX330 := ho.ext hX330 (tr (tr hs332 hs338) (Nat.le_of_eq hzO339))
        replace hR335 := ho.ints (fun ad e => Nat.ne_of_lt (Nat.lt_of_lt_of_le (hfr336 ad e).2 (Nat.le_of_eq hzO339))) hR335
        have hs344 : X340.heap.size ≤ X343.heap.size := Nat.le_of_eq ho.size.symm
        clear ho hk bO339_0
        have bO339_0 := hv0; clear hv0
        refine ⟨⟨(hX78.cell ceD), (Bx hX299 bO293_0).1⟩, ?_⟩
        refine wk 12 (.int .i64 (orE vD 50 : Int)) hR (⟨(hX78.cell ceD), (Bx hX299 bO293_0).1⟩) ?_
        refine wd_end hL hR hK (by kernel_rfl) ?_
        exact qw_leaf hJ [13, 15, 17, 18, 27, 34, 35, 36, 37, 38, 304, 305, 306] (ws' := [(13, .pointer (some ⟨O13, 0, none⟩)), (15, .bool true), (17, .slice (some ⟨O64, 0, none⟩) 4 4), (18, .slice (some ⟨O74, 0, none⟩) 4 4), (27, .int .i64 (((ib : Nat) : Int) : Int)), (34, .pointer (some ⟨O293, 0, none⟩)), (35, .pointer (some ⟨O308, 0, none⟩)), (36, .int .i64 (orE vD 50 : Int)), (37, .pointer (some ⟨O339, 0, none⟩)), (38, .int .i64 (orE vD 50 : Int)), (304, .slice (some ⟨O285, 0, none⟩) 2 2), (305, .int .i64 2), (306, .int .i64 (((kb : Nat) : Int) : Int))]) (by kernel_rfl) ⟨ra333, rk334, O339, rfl, hE, hX78, hX289, hX299, hX330, hR335, bO339_0, (tr hs332 (tr hs338 (tr hs341 hs344))), (tr (tr hs332 hs338) (Nat.le_of_eq hzO339))⟩
       ·
        refine sn_new (us := #[.slice none 0 0]) (t := 25) (by kernel_rfl) ?_
        intro O345 X346 hO hOs hb hbx
        have hzO345 := hO; have hyO345 := hOs; clear hO hOs
        have bO345_0 : BoxAt X346 O345 0 (.slice none 0 0) := hbx 0 _ rfl
        clear hbx
        replace hE := hE.trans hb
        replace hX78 := hX78.trans hb
        replace hX289 := hX289.trans hb
        replace hX299 := hX299.trans hb
        replace hX330 := hX330.trans hb
        have hs347 := hb.size
        clear hb
        have lt348 := bO345_0.lt
        refine ⟨⟨(hX78.cell ceD), (Bx hX299 bO293_0).1⟩, ?_⟩
        refine wd_step 6 hR rfl (by kernel_rfl) (by kernel_rfl) (by kernel_rfl) (sn_call (f := 34) (args := #[.agg #[.slice aD nD cD], .int .i64 (uG : Int)]) (by kernel_rfl) ((rShifted_c _ _ _ aaD hX78).mono ?_))
        rintro e w353 ⟨ra349, rk350, rfl, hR351, hb, hfr352⟩
        replace hE := hE.trans hb
        replace hX78 := hX78.trans hb
        replace hX289 := hX289.trans hb
        replace hX299 := hX299.trans hb
        replace hX330 := hX330.trans hb
        replace bO345_0 := Bx hb bO345_0
        have hs354 := hb.size
        clear hb
        refine ⟨_, rfl, ⟨(hX78.cell ceD), (Bx hX299 bO293_0).1⟩, ?_⟩
        have hs9 := And.intro (hX78.cell ceD) (BoxAt.ext hX299 bO293_0).1
        refine wk 7 (.tuple #[.agg #[.slice ra349 ((orL vD (Globe.shiftL lD (modN (uG)))).length) rk350], .int .i64 (orE vD 50 : Int)]) hR hs9 ?_
        refine wl 8 (.agg #[.slice ra349 ((orL vD (Globe.shiftL lD (modN (uG)))).length) rk350]) hR hs9 rfl (fun w _ => by kernel_rfl) ?_
        refine wk 9 (.int .i64 (orE vD 50 : Int)) hR hs9 ?_
        refine wd_step 11 hR rfl (by kernel_rfl) (by kernel_rfl) (by kernel_rfl) (sn_set (O := O345) (j := 0) (v := .slice ra349 ((orL vD (Globe.shiftL lD (modN (uG)))).length) rk350) (ex_store (p := .pointer (some ⟨O345, 0, none⟩)) (v := .agg #[.slice ra349 ((orL vD (Globe.shiftL lD (modN (uG)))).length) rk350]) rfl (by kernel_rfl) (by kernel_rfl) (st25 bO345_0.1 bO345_0.2)) bO345_0 ?_)
        intro X355 ho hv0 hk
        replace hE := ho.ext hE (tr (tr hs3 (tr hs7 (tr hs11 (tr hs15 (tr hs18 (tr hs26 (tr hs31 (tr hs34 (tr hs36 (tr hs39 (tr hs41 (tr hs49 (tr hs59 (tr hs63 (tr hs66 (tr hs69 (tr hs71 (tr hs73 (tr hs76 (tr hs79 (tr hs180 (tr hs184 (tr hs186 (tr hs188 (tr hs190 (tr hs192 (tr hs197 (tr hs203 (tr hs206 (tr hs207 (tr hs282 (tr hs287 (tr hs290 (tr hs295 (tr hs298 (tr hn327 hs332)))))))))))))))))))))))))))))))))))) (Nat.le_of_eq hzO345))
        replace hX78 := ho.ext hX78 (tr (tr hs79 (tr hs180 (tr hs184 (tr hs186 (tr hs188 (tr hs190 (tr hs192 (tr hs197 (tr hs203 (tr hs206 (tr hs207 (tr hs282 (tr hs287 (tr hs290 (tr hs295 (tr hs298 (tr hn327 hs332))))))))))))))))) (Nat.le_of_eq hzO345))
        replace hX289 := ho.ext hX289 (tr (tr hs290 (tr hs295 (tr hs298 (tr hn327 hs332)))) (Nat.le_of_eq hzO345))
        replace hX299 := ho.ext hX299 (tr (tr hn327 hs332) (Nat.le_of_eq hzO345))
        replace hX330 := ho.ext hX330 (tr hs332 (Nat.le_of_eq hzO345))
        replace hR351 := ho.ints (fun ad e => Nat.ne_of_gt (Nat.lt_of_lt_of_le lt348 (tr (Nat.le_refl _) (hfr352 ad e).1))) hR351
        have hs356 : w353.heap.size ≤ X355.heap.size := Nat.le_of_eq ho.size.symm
        clear ho hk bO345_0
        have bO345_0 := hv0; clear hv0
        refine ⟨⟨(hX78.cell ceD), (Bx hX299 bO293_0).1⟩, ?_⟩
        refine wk 12 (.int .i64 (orE vD 50 : Int)) hR (⟨(hX78.cell ceD), (Bx hX299 bO293_0).1⟩) ?_
        refine wd_end hL hR hK (by kernel_rfl) ?_
        exact qw_leaf hJ [13, 15, 17, 18, 27, 34, 35, 36, 37, 38, 304, 305, 306] (ws' := [(13, .pointer (some ⟨O13, 0, none⟩)), (15, .bool true), (17, .slice (some ⟨O64, 0, none⟩) 4 4), (18, .slice (some ⟨O74, 0, none⟩) 4 4), (27, .int .i64 (((ib : Nat) : Int) : Int)), (34, .pointer (some ⟨O293, 0, none⟩)), (35, .pointer (some ⟨O308, 0, none⟩)), (36, .int .i64 (orE vD 50 : Int)), (37, .pointer (some ⟨O345, 0, none⟩)), (38, .int .i64 (orE vD 50 : Int)), (304, .slice (some ⟨O285, 0, none⟩) 2 2), (305, .int .i64 2), (306, .int .i64 (((kb : Nat) : Int) : Int))]) (by kernel_rfl) ⟨ra349, rk350, O345, rfl, hE, hX78, hX289, hX299, hX330, hR351, bO345_0, (tr hs332 (tr hs347 (tr hs354 hs356))), (tr hs332 (Nat.le_of_eq hzO345))⟩
      ·
       clear hE hX78 hX289 hX299 hX330
       rintro L ws Y357 ⟨ra333, rk334, O339, rfl, hE, hX78, hX289, hX299, hX330, hR335, bO339_0, hn358, hn359⟩
       have lt360 := bO339_0.lt
       refine qw_then ?_
       refine cw_seq ?_
       have hX361 : Ext Y357 Y357 := Ext.refl _
       refine cw_join (fun ws' Y => ∃ ra364 : Option Addr, ∃ rk365 : Nat, ∃ O370 : Nat, ws' = [(13, .pointer (some ⟨O13, 0, none⟩)), (15, .bool true), (17, .slice (some ⟨O64, 0, none⟩) 4 4), (18, .slice (some ⟨O74, 0, none⟩) 4 4), (27, .int .i64 (((ib : Nat) : Int) : Int)), (34, .pointer (some ⟨O293, 0, none⟩)), (35, .pointer (some ⟨O308, 0, none⟩)), (36, .int .i64 (orE vD 50 : Int)), (37, .pointer (some ⟨O339, 0, none⟩)), (38, .int .i64 (orE vD 50 : Int)), (39, .pointer (some ⟨O370, 0, none⟩)), (40, .int .i64 (orE (vD && Globe.inB (zG) 0 24) 50 : Int)), (304, .slice (some ⟨O285, 0, none⟩) 2 2), (305, .int .i64 2), (306, .int .i64 (((kb : Nat) : Int) : Int))] ∧ Ext w Y ∧ Ext X75 Y ∧ Ext X286 Y ∧ Ext X297 Y ∧ Ext Y326 Y ∧ Ext Y357 Y ∧ IntsAt Y ra364 ((orL (vD && Globe.inB (zG) 0 24) (Globe.growL lD (zG).toNat))) ∧ BoxAt Y O370 0 (.slice ra364 ((orL (vD && Globe.inB (zG) 0 24) (Globe.growL lD (zG).toNat)).length) rk365) ∧ Y357.heap.size ≤ Y.heap.size ∧ Y357.heap.size ≤ O370) (fun hJ => ?_) ?_
       ·
        refine cw_draw [(some 331, [17], []), (some 332, [27], []), (some 333, [331, 332], [0, 1]), (some 334, [333], [2]), (some 335, [34], []), (some 336, [335], [4]), (some 337, [334, 336], [3, 5]), (some 330, [337], [6]), (some 338, [330], [7]), (some 339, [330], [7]), (some 39, [], []), (none, [39, 338], [10, 8, 6, 0, 1, 2, 3, 4, 5, 6, 7, 8, 10]), (some 40, [339], [9, 11, 0, 1, 2, 3, 4, 5, 6, 7, 8, 9, 10, 11])] (fun w' => w'.cell? ⟨O64, ib, none⟩ = some (.slice aD nD cD) ∧ w'.cell? ⟨O293, 1, none⟩ = some (.int .i64 (zG : Int))) (by kernel_rfl) (by kernel_rfl) (by kernel_rfl) (by kernel_rfl) ((calm_then (calm_block (calm_then (calm_then (calm_block (calm_then (calm_block (calm_then (calm_then (calm_block (calm_then calm_body)))))))))))) (⟨(hX78.cell ceD), (Bx hX299 bO293_1).1⟩) (fun ops Q X362 hb hL hR hK => ?_)
        replace hE := hE.trans hb
        replace hX78 := hX78.trans hb
        replace hX289 := hX289.trans hb
        replace hX299 := hX299.trans hb
        replace hX330 := hX330.trans hb
        replace hX361 := hX361.trans hb
        have hs363 := hb.size
        clear hb
        have hs9 := And.intro (hX78.cell ceD) (BoxAt.ext hX299 bO293_1).1
        refine wk 0 (.slice (some ⟨O64, 0, none⟩) 4 4) hR hs9 ?_
        refine wk 1 (.int .i64 (((ib : Nat) : Int) : Int)) hR hs9 ?_
        refine wl 2 (.pointer (some ⟨O64, ib, none⟩)) hR hs9 rfl (fun w _ => ex_index (p := .slice (some ⟨O64, 0, none⟩) 4 4) (i := .int .i64 ((ib : Nat) : Int)) rfl (by kernel_rfl) (by kernel_rfl) (ix33z (k := ib) (by omega))) ?_
        refine wl 3 (.agg #[.slice aD nD cD]) hR hs9 rfl (fun w hS => ex_load rfl (by kernel_rfl) (ld25 (hS.1))) ?_
        refine wk 4 (.pointer (some ⟨O293, 1, none⟩)) hR hs9 ?_
        refine wl 5 (.int .i64 (zG : Int)) hR hs9 rfl (fun w hS => ex_load rfl (by kernel_rfl) (ld3 (hS.2))) ?_
        refine wd_two 6 10 hR rfl rfl (by kernel_rfl) (by kernel_rfl) (by kernel_rfl) (by kernel_rfl) ?_ ?_
        ·
         refine sn_call (f := 35) (args := #[.agg #[.slice aD nD cD], .int .i64 (zG : Int)]) (by kernel_rfl) ((Grown_c _ _ _ aaD hX78).mono ?_)
         rintro e w368 ⟨ra364, rk365, rfl, hR366, hb, hfr367⟩
         replace hE := hE.trans hb
         replace hX78 := hX78.trans hb
         replace hX289 := hX289.trans hb
         replace hX299 := hX299.trans hb
         replace hX330 := hX330.trans hb
         replace hX361 := hX361.trans hb
         have hs369 := hb.size
         clear hb
         refine ⟨_, rfl, ⟨(hX78.cell ceD), (Bx hX299 bO293_1).1⟩, ?_⟩
         have hs9 := And.intro (hX78.cell ceD) (BoxAt.ext hX299 bO293_1).1
         refine wk 7 (.tuple #[.agg #[.slice ra364 ((orL (vD && Globe.inB (zG) 0 24) (Globe.growL lD (zG).toNat)).length) rk365], .int .i64 (orE (vD && Globe.inB (zG) 0 24) 50 : Int)]) hR hs9 ?_
         refine wl 8 (.agg #[.slice ra364 ((orL (vD && Globe.inB (zG) 0 24) (Globe.growL lD (zG).toNat)).length) rk365]) hR hs9 rfl (fun w _ => by kernel_rfl) ?_
         refine wk 9 (.int .i64 (orE (vD && Globe.inB (zG) 0 24) 50 : Int)) hR hs9 ?_
         refine wd_step 10 hR rfl (by kernel_rfl) (by kernel_rfl) (by kernel_rfl) (sn_new (us := #[.slice none 0 0]) (t := 25) (by kernel_rfl) ?_)
         intro O370 X371 hO hOs hb hbx
         have hzO370 := hO; have hyO370 := hOs; clear hO hOs
         have bO370_0 : BoxAt X371 O370 0 (.slice none 0 0) := hbx 0 _ rfl
         clear hbx
         replace hE := hE.trans hb
         replace hX78 := hX78.trans hb
         replace hX289 := hX289.trans hb
         replace hX299 := hX299.trans hb
         replace hX330 := hX330.trans hb
         replace hX361 := hX361.trans hb
         replace hR366 := hR366.ext hb
         have hs372 := hb.size
         clear hb
         have lt373 := bO370_0.lt
         refine ⟨⟨(hX78.cell ceD), (Bx hX299 bO293_1).1⟩, ?_⟩
         refine wd_step 11 hR rfl (by kernel_rfl) (by kernel_rfl) (by kernel_rfl) (sn_set (O := O370) (j := 0) (v := .slice ra364 ((orL (vD && Globe.inB (zG) 0 24) (Globe.growL lD (zG).toNat)).length) rk365) (ex_store (p := .pointer (some ⟨O370, 0, none⟩)) (v := .agg #[.slice ra364 ((orL (vD && Globe.inB (zG) 0 24) (Globe.growL lD (zG).toNat)).length) rk365]) rfl (by kernel_rfl) (by kernel_rfl) (st25 bO370_0.1 bO370_0.2)) bO370_0 ?_)
         intro X374 ho hv0 hk
         replace hE := ho.ext hE (tr (tr hs3 (tr hs7 (tr hs11 (tr hs15 (tr hs18 (tr hs26 (tr hs31 (tr hs34 (tr hs36 (tr hs39 (tr hs41 (tr hs49 (tr hs59 (tr hs63 (tr hs66 (tr hs69 (tr hs71 (tr hs73 (tr hs76 (tr hs79 (tr hs180 (tr hs184 (tr hs186 (tr hs188 (tr hs190 (tr hs192 (tr hs197 (tr hs203 (tr hs206 (tr hs207 (tr hs282 (tr hs287 (tr hs290 (tr hs295 (tr hs298 (tr hn327 (tr hn358 (tr hs363 hs369)))))))))))))))))))))))))))))))))))))) (Nat.le_of_eq hzO370))
         replace hX78 := ho.ext hX78 (tr (tr hs79 (tr hs180 (tr hs184 (tr hs186 (tr hs188 (tr hs190 (tr hs192 (tr hs197 (tr hs203 (tr hs206 (tr hs207 (tr hs282 (tr hs287 (tr hs290 (tr hs295 (tr hs298 (tr hn327 (tr hn358 (tr hs363 hs369))))))))))))))))))) (Nat.le_of_eq hzO370))
         replace hX289 := ho.ext hX289 (tr (tr hs290 (tr hs295 (tr hs298 (tr hn327 (tr hn358 (tr hs363 hs369)))))) (Nat.le_of_eq hzO370))
         replace hX299 := ho.ext hX299 (tr (tr hn327 (tr hn358 (tr hs363 hs369))) (Nat.le_of_eq hzO370))
         replace hX330 := ho.ext hX330 (tr (tr hn358 (tr hs363 hs369)) (Nat.le_of_eq hzO370))
         replace hX361 := ho.ext hX361 (tr (tr hs363 hs369) (Nat.le_of_eq hzO370))
         replace hR366 := ho.ints (fun ad e => Nat.ne_of_lt (Nat.lt_of_lt_of_le (hfr367 ad e).2 (Nat.le_of_eq hzO370))) hR366
         have hs375 : X371.heap.size ≤ X374.heap.size := Nat.le_of_eq ho.size.symm
         clear ho hk bO370_0
         have bO370_0 := hv0; clear hv0
         refine ⟨⟨(hX78.cell ceD), (Bx hX299 bO293_1).1⟩, ?_⟩
         refine wk 12 (.int .i64 (orE (vD && Globe.inB (zG) 0 24) 50 : Int)) hR (⟨(hX78.cell ceD), (Bx hX299 bO293_1).1⟩) ?_
         refine wd_end hL hR hK (by kernel_rfl) ?_
         exact qw_leaf hJ [13, 15, 17, 18, 27, 34, 35, 36, 37, 38, 39, 40, 304, 305, 306] (ws' := [(13, .pointer (some ⟨O13, 0, none⟩)), (15, .bool true), (17, .slice (some ⟨O64, 0, none⟩) 4 4), (18, .slice (some ⟨O74, 0, none⟩) 4 4), (27, .int .i64 (((ib : Nat) : Int) : Int)), (34, .pointer (some ⟨O293, 0, none⟩)), (35, .pointer (some ⟨O308, 0, none⟩)), (36, .int .i64 (orE vD 50 : Int)), (37, .pointer (some ⟨O339, 0, none⟩)), (38, .int .i64 (orE vD 50 : Int)), (39, .pointer (some ⟨O370, 0, none⟩)), (40, .int .i64 (orE (vD && Globe.inB (zG) 0 24) 50 : Int)), (304, .slice (some ⟨O285, 0, none⟩) 2 2), (305, .int .i64 2), (306, .int .i64 (((kb : Nat) : Int) : Int))]) (by kernel_rfl) ⟨ra364, rk365, O370, rfl, hE, hX78, hX289, hX299, hX330, hX361, hR366, bO370_0, (tr hs363 (tr hs369 (tr hs372 hs375))), (tr (tr hs363 hs369) (Nat.le_of_eq hzO370))⟩
        ·
         refine sn_new (us := #[.slice none 0 0]) (t := 25) (by kernel_rfl) ?_
         intro O376 X377 hO hOs hb hbx
         have hzO376 := hO; have hyO376 := hOs; clear hO hOs
         have bO376_0 : BoxAt X377 O376 0 (.slice none 0 0) := hbx 0 _ rfl
         clear hbx
         replace hE := hE.trans hb
         replace hX78 := hX78.trans hb
         replace hX289 := hX289.trans hb
         replace hX299 := hX299.trans hb
         replace hX330 := hX330.trans hb
         replace hX361 := hX361.trans hb
         have hs378 := hb.size
         clear hb
         have lt379 := bO376_0.lt
         refine ⟨⟨(hX78.cell ceD), (Bx hX299 bO293_1).1⟩, ?_⟩
         refine wd_step 6 hR rfl (by kernel_rfl) (by kernel_rfl) (by kernel_rfl) (sn_call (f := 35) (args := #[.agg #[.slice aD nD cD], .int .i64 (zG : Int)]) (by kernel_rfl) ((Grown_c _ _ _ aaD hX78).mono ?_))
         rintro e w384 ⟨ra380, rk381, rfl, hR382, hb, hfr383⟩
         replace hE := hE.trans hb
         replace hX78 := hX78.trans hb
         replace hX289 := hX289.trans hb
         replace hX299 := hX299.trans hb
         replace hX330 := hX330.trans hb
         replace hX361 := hX361.trans hb
         replace bO376_0 := Bx hb bO376_0
         have hs385 := hb.size
         clear hb
         refine ⟨_, rfl, ⟨(hX78.cell ceD), (Bx hX299 bO293_1).1⟩, ?_⟩
         have hs9 := And.intro (hX78.cell ceD) (BoxAt.ext hX299 bO293_1).1
         refine wk 7 (.tuple #[.agg #[.slice ra380 ((orL (vD && Globe.inB (zG) 0 24) (Globe.growL lD (zG).toNat)).length) rk381], .int .i64 (orE (vD && Globe.inB (zG) 0 24) 50 : Int)]) hR hs9 ?_
         refine wl 8 (.agg #[.slice ra380 ((orL (vD && Globe.inB (zG) 0 24) (Globe.growL lD (zG).toNat)).length) rk381]) hR hs9 rfl (fun w _ => by kernel_rfl) ?_
         refine wk 9 (.int .i64 (orE (vD && Globe.inB (zG) 0 24) 50 : Int)) hR hs9 ?_
         refine wd_step 11 hR rfl (by kernel_rfl) (by kernel_rfl) (by kernel_rfl) (sn_set (O := O376) (j := 0) (v := .slice ra380 ((orL (vD && Globe.inB (zG) 0 24) (Globe.growL lD (zG).toNat)).length) rk381) (ex_store (p := .pointer (some ⟨O376, 0, none⟩)) (v := .agg #[.slice ra380 ((orL (vD && Globe.inB (zG) 0 24) (Globe.growL lD (zG).toNat)).length) rk381]) rfl (by kernel_rfl) (by kernel_rfl) (st25 bO376_0.1 bO376_0.2)) bO376_0 ?_)
         intro X386 ho hv0 hk
         replace hE := ho.ext hE (tr (tr hs3 (tr hs7 (tr hs11 (tr hs15 (tr hs18 (tr hs26 (tr hs31 (tr hs34 (tr hs36 (tr hs39 (tr hs41 (tr hs49 (tr hs59 (tr hs63 (tr hs66 (tr hs69 (tr hs71 (tr hs73 (tr hs76 (tr hs79 (tr hs180 (tr hs184 (tr hs186 (tr hs188 (tr hs190 (tr hs192 (tr hs197 (tr hs203 (tr hs206 (tr hs207 (tr hs282 (tr hs287 (tr hs290 (tr hs295 (tr hs298 (tr hn327 (tr hn358 hs363))))))))))))))))))))))))))))))))))))) (Nat.le_of_eq hzO376))
         replace hX78 := ho.ext hX78 (tr (tr hs79 (tr hs180 (tr hs184 (tr hs186 (tr hs188 (tr hs190 (tr hs192 (tr hs197 (tr hs203 (tr hs206 (tr hs207 (tr hs282 (tr hs287 (tr hs290 (tr hs295 (tr hs298 (tr hn327 (tr hn358 hs363)))))))))))))))))) (Nat.le_of_eq hzO376))
         replace hX289 := ho.ext hX289 (tr (tr hs290 (tr hs295 (tr hs298 (tr hn327 (tr hn358 hs363))))) (Nat.le_of_eq hzO376))
         replace hX299 := ho.ext hX299 (tr (tr hn327 (tr hn358 hs363)) (Nat.le_of_eq hzO376))
         replace hX330 := ho.ext hX330 (tr (tr hn358 hs363) (Nat.le_of_eq hzO376))
         replace hX361 := ho.ext hX361 (tr hs363 (Nat.le_of_eq hzO376))
         replace hR382 := ho.ints (fun ad e => Nat.ne_of_gt (Nat.lt_of_lt_of_le lt379 (tr (Nat.le_refl _) (hfr383 ad e).1))) hR382
         have hs387 : w384.heap.size ≤ X386.heap.size := Nat.le_of_eq ho.size.symm
         clear ho hk bO376_0
         have bO376_0 := hv0; clear hv0
         refine ⟨⟨(hX78.cell ceD), (Bx hX299 bO293_1).1⟩, ?_⟩
         refine wk 12 (.int .i64 (orE (vD && Globe.inB (zG) 0 24) 50 : Int)) hR (⟨(hX78.cell ceD), (Bx hX299 bO293_1).1⟩) ?_
         refine wd_end hL hR hK (by kernel_rfl) ?_
         exact qw_leaf hJ [13, 15, 17, 18, 27, 34, 35, 36, 37, 38, 39, 40, 304, 305, 306] (ws' := [(13, .pointer (some ⟨O13, 0, none⟩)), (15, .bool true), (17, .slice (some ⟨O64, 0, none⟩) 4 4), (18, .slice (some ⟨O74, 0, none⟩) 4 4), (27, .int .i64 (((ib : Nat) : Int) : Int)), (34, .pointer (some ⟨O293, 0, none⟩)), (35, .pointer (some ⟨O308, 0, none⟩)), (36, .int .i64 (orE vD 50 : Int)), (37, .pointer (some ⟨O339, 0, none⟩)), (38, .int .i64 (orE vD 50 : Int)), (39, .pointer (some ⟨O376, 0, none⟩)), (40, .int .i64 (orE (vD && Globe.inB (zG) 0 24) 50 : Int)), (304, .slice (some ⟨O285, 0, none⟩) 2 2), (305, .int .i64 2), (306, .int .i64 (((kb : Nat) : Int) : Int))]) (by kernel_rfl) ⟨ra380, rk381, O376, rfl, hE, hX78, hX289, hX299, hX330, hX361, hR382, bO376_0, (tr hs363 (tr hs378 (tr hs385 hs387))), (tr hs363 (Nat.le_of_eq hzO376))⟩
       ·
        clear hE hX78 hX289 hX299 hX330 hX361
        rintro L ws Y388 ⟨ra364, rk365, O370, rfl, hE, hX78, hX289, hX299, hX330, hX361, hR366, bO370_0, hn389, hn390⟩
        have lt391 := bO370_0.lt
        refine qw_then ?_
        refine cw_clean [13, 15, 17, 18, 27, 34, 35, 36, 37, 38, 39, 40, 304, 305, 306] (ws' := [(13, .pointer (some ⟨O13, 0, none⟩)), (15, .bool true), (17, .slice (some ⟨O64, 0, none⟩) 4 4), (18, .slice (some ⟨O74, 0, none⟩) 4 4), (27, .int .i64 (((ib : Nat) : Int) : Int)), (34, .pointer (some ⟨O293, 0, none⟩)), (35, .pointer (some ⟨O308, 0, none⟩)), (36, .int .i64 (orE vD 50 : Int)), (37, .pointer (some ⟨O339, 0, none⟩)), (38, .int .i64 (orE vD 50 : Int)), (39, .pointer (some ⟨O370, 0, none⟩)), (40, .int .i64 (orE (vD && Globe.inB (zG) 0 24) 50 : Int)), (304, .slice (some ⟨O285, 0, none⟩) 2 2), (305, .int .i64 2), (306, .int .i64 (((kb : Nat) : Int) : Int))]) (by kernel_rfl) (fun L => ?_)
        refine cw_seq ?_
        have hX392 : Ext Y388 Y388 := Ext.refl _
        refine cw_join (fun ws' Y => ∃ ra395 : Option Addr, ∃ rk396 : Nat, ∃ O401 : Nat, ws' = [(13, .pointer (some ⟨O13, 0, none⟩)), (15, .bool true), (17, .slice (some ⟨O64, 0, none⟩) 4 4), (18, .slice (some ⟨O74, 0, none⟩) 4 4), (27, .int .i64 (((ib : Nat) : Int) : Int)), (35, .pointer (some ⟨O308, 0, none⟩)), (36, .int .i64 (orE vD 50 : Int)), (37, .pointer (some ⟨O339, 0, none⟩)), (38, .int .i64 (orE vD 50 : Int)), (39, .pointer (some ⟨O370, 0, none⟩)), (40, .int .i64 (orE (vD && Globe.inB (zG) 0 24) 50 : Int)), (41, .pointer (some ⟨O401, 0, none⟩)), (42, .int .i64 (orE (vD && Globe.inB (zG) 0 24) 50 : Int)), (304, .slice (some ⟨O285, 0, none⟩) 2 2), (305, .int .i64 2), (306, .int .i64 (((kb : Nat) : Int) : Int))] ∧ Ext w Y ∧ Ext X75 Y ∧ Ext X286 Y ∧ Ext X297 Y ∧ Ext Y326 Y ∧ Ext Y357 Y ∧ Ext Y388 Y ∧ IntsAt Y ra395 ((orL (vD && Globe.inB (zG) 0 24) (Globe.growL lD (zG).toNat))) ∧ BoxAt Y O401 0 (.slice ra395 ((orL (vD && Globe.inB (zG) 0 24) (Globe.growL lD (zG).toNat)).length) rk396) ∧ Y388.heap.size ≤ Y.heap.size ∧ Y388.heap.size ≤ O401) (fun hJ => ?_) ?_
        ·
         refine cw_draw [(some 341, [17], []), (some 342, [27], []), (some 343, [341, 342], [0, 1]), (some 344, [343], [2]), (some 345, [34], []), (some 346, [345], [4]), (some 347, [344, 346], [3, 5]), (some 340, [347], [6]), (some 348, [340], [7]), (some 349, [340], [7]), (some 41, [], []), (none, [41, 348], [10, 8, 6, 0, 1, 2, 3, 4, 5, 6, 7, 8, 10]), (some 42, [349], [9, 11, 0, 1, 2, 3, 4, 5, 6, 7, 8, 9, 10, 11])] (fun w' => w'.cell? ⟨O64, ib, none⟩ = some (.slice aD nD cD) ∧ w'.cell? ⟨O293, 1, none⟩ = some (.int .i64 (zG : Int))) (by kernel_rfl) (by kernel_rfl) (by kernel_rfl) (by kernel_rfl) ((calm_then (calm_block (calm_then (calm_then (calm_block (calm_then (calm_block (calm_then (calm_then (calm_block (calm_then calm_body)))))))))))) (⟨(hX78.cell ceD), (Bx hX299 bO293_1).1⟩) (fun ops Q X393 hb hL hR hK => ?_)
         replace hE := hE.trans hb
         replace hX78 := hX78.trans hb
         replace hX289 := hX289.trans hb
         replace hX299 := hX299.trans hb
         replace hX330 := hX330.trans hb
         replace hX361 := hX361.trans hb
         replace hX392 := hX392.trans hb
         have hs394 := hb.size
         clear hb
         have hs9 := And.intro (hX78.cell ceD) (BoxAt.ext hX299 bO293_1).1
         refine wk 0 (.slice (some ⟨O64, 0, none⟩) 4 4) hR hs9 ?_
         refine wk 1 (.int .i64 (((ib : Nat) : Int) : Int)) hR hs9 ?_
         refine wl 2 (.pointer (some ⟨O64, ib, none⟩)) hR hs9 rfl (fun w _ => ex_index (p := .slice (some ⟨O64, 0, none⟩) 4 4) (i := .int .i64 ((ib : Nat) : Int)) rfl (by kernel_rfl) (by kernel_rfl) (ix33z (k := ib) (by omega))) ?_
         refine wl 3 (.agg #[.slice aD nD cD]) hR hs9 rfl (fun w hS => ex_load rfl (by kernel_rfl) (ld25 (hS.1))) ?_
         refine wk 4 (.pointer (some ⟨O293, 1, none⟩)) hR hs9 ?_
         refine wl 5 (.int .i64 (zG : Int)) hR hs9 rfl (fun w hS => ex_load rfl (by kernel_rfl) (ld3 (hS.2))) ?_
         refine wd_two 6 10 hR rfl rfl (by kernel_rfl) (by kernel_rfl) (by kernel_rfl) (by kernel_rfl) ?_ ?_
         ·
          refine sn_call (f := 36) (args := #[.agg #[.slice aD nD cD], .int .i64 (zG : Int)]) (by kernel_rfl) ((rGrown_c _ _ _ aaD hX78).mono ?_)
          rintro e w399 ⟨ra395, rk396, rfl, hR397, hb, hfr398⟩
          replace hE := hE.trans hb
          replace hX78 := hX78.trans hb
          replace hX289 := hX289.trans hb
          replace hX299 := hX299.trans hb
          replace hX330 := hX330.trans hb
          replace hX361 := hX361.trans hb
          replace hX392 := hX392.trans hb
          have hs400 := hb.size
          clear hb
          refine ⟨_, rfl, ⟨(hX78.cell ceD), (Bx hX299 bO293_1).1⟩, ?_⟩
          have hs9 := And.intro (hX78.cell ceD) (BoxAt.ext hX299 bO293_1).1
          refine wk 7 (.tuple #[.agg #[.slice ra395 ((orL (vD && Globe.inB (zG) 0 24) (Globe.growL lD (zG).toNat)).length) rk396], .int .i64 (orE (vD && Globe.inB (zG) 0 24) 50 : Int)]) hR hs9 ?_
          refine wl 8 (.agg #[.slice ra395 ((orL (vD && Globe.inB (zG) 0 24) (Globe.growL lD (zG).toNat)).length) rk396]) hR hs9 rfl (fun w _ => by kernel_rfl) ?_
          refine wk 9 (.int .i64 (orE (vD && Globe.inB (zG) 0 24) 50 : Int)) hR hs9 ?_
          refine wd_step 10 hR rfl (by kernel_rfl) (by kernel_rfl) (by kernel_rfl) (sn_new (us := #[.slice none 0 0]) (t := 25) (by kernel_rfl) ?_)
          intro O401 X402 hO hOs hb hbx
          have hzO401 := hO; have hyO401 := hOs; clear hO hOs
          have bO401_0 : BoxAt X402 O401 0 (.slice none 0 0) := hbx 0 _ rfl
          clear hbx
          replace hE := hE.trans hb
          replace hX78 := hX78.trans hb
          replace hX289 := hX289.trans hb
          replace hX299 := hX299.trans hb
          replace hX330 := hX330.trans hb
          replace hX361 := hX361.trans hb
          replace hX392 := hX392.trans hb
          replace hR397 := hR397.ext hb
          have hs403 := hb.size
          clear hb
          have lt404 := bO401_0.lt
          refine ⟨⟨(hX78.cell ceD), (Bx hX299 bO293_1).1⟩, ?_⟩
          refine wd_step 11 hR rfl (by kernel_rfl) (by kernel_rfl) (by kernel_rfl) (sn_set (O := O401) (j := 0) (v := .slice ra395 ((orL (vD && Globe.inB (zG) 0 24) (Globe.growL lD (zG).toNat)).length) rk396) (ex_store (p := .pointer (some ⟨O401, 0, none⟩)) (v := .agg #[.slice ra395 ((orL (vD && Globe.inB (zG) 0 24) (Globe.growL lD (zG).toNat)).length) rk396]) rfl (by kernel_rfl) (by kernel_rfl) (st25 bO401_0.1 bO401_0.2)) bO401_0 ?_)
          intro X405 ho hv0 hk
          replace hE := ho.ext hE (tr (tr hs3 (tr hs7 (tr hs11 (tr hs15 (tr hs18 (tr hs26 (tr hs31 (tr hs34 (tr hs36 (tr hs39 (tr hs41 (tr hs49 (tr hs59 (tr hs63 (tr hs66 (tr hs69 (tr hs71 (tr hs73 (tr hs76 (tr hs79 (tr hs180 (tr hs184 (tr hs186 (tr hs188 (tr hs190 (tr hs192 (tr hs197 (tr hs203 (tr hs206 (tr hs207 (tr hs282 (tr hs287 (tr hs290 (tr hs295 (tr hs298 (tr hn327 (tr hn358 (tr hn389 (tr hs394 hs400))))))))))))))))))))))))))))))))))))))) (Nat.le_of_eq hzO401))
          replace hX78 := ho.ext hX78 (tr (tr hs79 (tr hs180 (tr hs184 (tr hs186 (tr hs188 (tr hs190 (tr hs192 (tr hs197 (tr hs203 (tr hs206 (tr hs207 (tr hs282 (tr hs287 (tr hs290 (tr hs295 (tr hs298 (tr hn327 (tr hn358 (tr hn389 (tr hs394 hs400)))))))))))))))))))) (Nat.le_of_eq hzO401))
          replace hX289 := ho.ext hX289 (tr (tr hs290 (tr hs295 (tr hs298 (tr hn327 (tr hn358 (tr hn389 (tr hs394 hs400))))))) (Nat.le_of_eq hzO401))
          replace hX299 := ho.ext hX299 (tr (tr hn327 (tr hn358 (tr hn389 (tr hs394 hs400)))) (Nat.le_of_eq hzO401))
          replace hX330 := ho.ext hX330 (tr (tr hn358 (tr hn389 (tr hs394 hs400))) (Nat.le_of_eq hzO401))
          replace hX361 := ho.ext hX361 (tr (tr hn389 (tr hs394 hs400)) (Nat.le_of_eq hzO401))
          replace hX392 := ho.ext hX392 (tr (tr hs394 hs400) (Nat.le_of_eq hzO401))
          replace hR397 := ho.ints (fun ad e => Nat.ne_of_lt (Nat.lt_of_lt_of_le (hfr398 ad e).2 (Nat.le_of_eq hzO401))) hR397
          have hs406 : X402.heap.size ≤ X405.heap.size := Nat.le_of_eq ho.size.symm
          clear ho hk bO401_0
          have bO401_0 := hv0; clear hv0
          refine ⟨⟨(hX78.cell ceD), (Bx hX299 bO293_1).1⟩, ?_⟩
          refine wk 12 (.int .i64 (orE (vD && Globe.inB (zG) 0 24) 50 : Int)) hR (⟨(hX78.cell ceD), (Bx hX299 bO293_1).1⟩) ?_
          refine wd_end hL hR hK (by kernel_rfl) ?_
          exact qw_leaf hJ [13, 15, 17, 18, 27, 35, 36, 37, 38, 39, 40, 41, 42, 304, 305, 306] (ws' := [(13, .pointer (some ⟨O13, 0, none⟩)), (15, .bool true), (17, .slice (some ⟨O64, 0, none⟩) 4 4), (18, .slice (some ⟨O74, 0, none⟩) 4 4), (27, .int .i64 (((ib : Nat) : Int) : Int)), (35, .pointer (some ⟨O308, 0, none⟩)), (36, .int .i64 (orE vD 50 : Int)), (37, .pointer (some ⟨O339, 0, none⟩)), (38, .int .i64 (orE vD 50 : Int)), (39, .pointer (some ⟨O370, 0, none⟩)), (40, .int .i64 (orE (vD && Globe.inB (zG) 0 24) 50 : Int)), (41, .pointer (some ⟨O401, 0, none⟩)), (42, .int .i64 (orE (vD && Globe.inB (zG) 0 24) 50 : Int)), (304, .slice (some ⟨O285, 0, none⟩) 2 2), (305, .int .i64 2), (306, .int .i64 (((kb : Nat) : Int) : Int))]) (by kernel_rfl) ⟨ra395, rk396, O401, rfl, hE, hX78, hX289, hX299, hX330, hX361, hX392, hR397, bO401_0, (tr hs394 (tr hs400 (tr hs403 hs406))), (tr (tr hs394 hs400) (Nat.le_of_eq hzO401))⟩
         ·
          refine sn_new (us := #[.slice none 0 0]) (t := 25) (by kernel_rfl) ?_
          intro O407 X408 hO hOs hb hbx
          have hzO407 := hO; have hyO407 := hOs; clear hO hOs
          have bO407_0 : BoxAt X408 O407 0 (.slice none 0 0) := hbx 0 _ rfl
          clear hbx
          replace hE := hE.trans hb
          replace hX78 := hX78.trans hb
          replace hX289 := hX289.trans hb
          replace hX299 := hX299.trans hb
          replace hX330 := hX330.trans hb
          replace hX361 := hX361.trans hb
          replace hX392 := hX392.trans hb
          have hs409 := hb.size
          clear hb
          have lt410 := bO407_0.lt
          refine ⟨⟨(hX78.cell ceD), (Bx hX299 bO293_1).1⟩, ?_⟩
          refine wd_step 6 hR rfl (by kernel_rfl) (by kernel_rfl) (by kernel_rfl) (sn_call (f := 36) (args := #[.agg #[.slice aD nD cD], .int .i64 (zG : Int)]) (by kernel_rfl) ((rGrown_c _ _ _ aaD hX78).mono ?_))
          rintro e w415 ⟨ra411, rk412, rfl, hR413, hb, hfr414⟩
          replace hE := hE.trans hb
          replace hX78 := hX78.trans hb
          replace hX289 := hX289.trans hb
          replace hX299 := hX299.trans hb
          replace hX330 := hX330.trans hb
          replace hX361 := hX361.trans hb
          replace hX392 := hX392.trans hb
          replace bO407_0 := Bx hb bO407_0
          have hs416 := hb.size
          clear hb
          refine ⟨_, rfl, ⟨(hX78.cell ceD), (Bx hX299 bO293_1).1⟩, ?_⟩
          have hs9 := And.intro (hX78.cell ceD) (BoxAt.ext hX299 bO293_1).1
          refine wk 7 (.tuple #[.agg #[.slice ra411 ((orL (vD && Globe.inB (zG) 0 24) (Globe.growL lD (zG).toNat)).length) rk412], .int .i64 (orE (vD && Globe.inB (zG) 0 24) 50 : Int)]) hR hs9 ?_
          refine wl 8 (.agg #[.slice ra411 ((orL (vD && Globe.inB (zG) 0 24) (Globe.growL lD (zG).toNat)).length) rk412]) hR hs9 rfl (fun w _ => by kernel_rfl) ?_
          refine wk 9 (.int .i64 (orE (vD && Globe.inB (zG) 0 24) 50 : Int)) hR hs9 ?_
          refine wd_step 11 hR rfl (by kernel_rfl) (by kernel_rfl) (by kernel_rfl) (sn_set (O := O407) (j := 0) (v := .slice ra411 ((orL (vD && Globe.inB (zG) 0 24) (Globe.growL lD (zG).toNat)).length) rk412) (ex_store (p := .pointer (some ⟨O407, 0, none⟩)) (v := .agg #[.slice ra411 ((orL (vD && Globe.inB (zG) 0 24) (Globe.growL lD (zG).toNat)).length) rk412]) rfl (by kernel_rfl) (by kernel_rfl) (st25 bO407_0.1 bO407_0.2)) bO407_0 ?_)
          intro X417 ho hv0 hk
          replace hE := ho.ext hE (tr (tr hs3 (tr hs7 (tr hs11 (tr hs15 (tr hs18 (tr hs26 (tr hs31 (tr hs34 (tr hs36 (tr hs39 (tr hs41 (tr hs49 (tr hs59 (tr hs63 (tr hs66 (tr hs69 (tr hs71 (tr hs73 (tr hs76 (tr hs79 (tr hs180 (tr hs184 (tr hs186 (tr hs188 (tr hs190 (tr hs192 (tr hs197 (tr hs203 (tr hs206 (tr hs207 (tr hs282 (tr hs287 (tr hs290 (tr hs295 (tr hs298 (tr hn327 (tr hn358 (tr hn389 hs394)))))))))))))))))))))))))))))))))))))) (Nat.le_of_eq hzO407))
          replace hX78 := ho.ext hX78 (tr (tr hs79 (tr hs180 (tr hs184 (tr hs186 (tr hs188 (tr hs190 (tr hs192 (tr hs197 (tr hs203 (tr hs206 (tr hs207 (tr hs282 (tr hs287 (tr hs290 (tr hs295 (tr hs298 (tr hn327 (tr hn358 (tr hn389 hs394))))))))))))))))))) (Nat.le_of_eq hzO407))
          replace hX289 := ho.ext hX289 (tr (tr hs290 (tr hs295 (tr hs298 (tr hn327 (tr hn358 (tr hn389 hs394)))))) (Nat.le_of_eq hzO407))
          replace hX299 := ho.ext hX299 (tr (tr hn327 (tr hn358 (tr hn389 hs394))) (Nat.le_of_eq hzO407))
          replace hX330 := ho.ext hX330 (tr (tr hn358 (tr hn389 hs394)) (Nat.le_of_eq hzO407))
          replace hX361 := ho.ext hX361 (tr (tr hn389 hs394) (Nat.le_of_eq hzO407))
          replace hX392 := ho.ext hX392 (tr hs394 (Nat.le_of_eq hzO407))
          replace hR413 := ho.ints (fun ad e => Nat.ne_of_gt (Nat.lt_of_lt_of_le lt410 (tr (Nat.le_refl _) (hfr414 ad e).1))) hR413
          have hs418 : w415.heap.size ≤ X417.heap.size := Nat.le_of_eq ho.size.symm
          clear ho hk bO407_0
          have bO407_0 := hv0; clear hv0
          refine ⟨⟨(hX78.cell ceD), (Bx hX299 bO293_1).1⟩, ?_⟩
          refine wk 12 (.int .i64 (orE (vD && Globe.inB (zG) 0 24) 50 : Int)) hR (⟨(hX78.cell ceD), (Bx hX299 bO293_1).1⟩) ?_
          refine wd_end hL hR hK (by kernel_rfl) ?_
          exact qw_leaf hJ [13, 15, 17, 18, 27, 35, 36, 37, 38, 39, 40, 41, 42, 304, 305, 306] (ws' := [(13, .pointer (some ⟨O13, 0, none⟩)), (15, .bool true), (17, .slice (some ⟨O64, 0, none⟩) 4 4), (18, .slice (some ⟨O74, 0, none⟩) 4 4), (27, .int .i64 (((ib : Nat) : Int) : Int)), (35, .pointer (some ⟨O308, 0, none⟩)), (36, .int .i64 (orE vD 50 : Int)), (37, .pointer (some ⟨O339, 0, none⟩)), (38, .int .i64 (orE vD 50 : Int)), (39, .pointer (some ⟨O370, 0, none⟩)), (40, .int .i64 (orE (vD && Globe.inB (zG) 0 24) 50 : Int)), (41, .pointer (some ⟨O407, 0, none⟩)), (42, .int .i64 (orE (vD && Globe.inB (zG) 0 24) 50 : Int)), (304, .slice (some ⟨O285, 0, none⟩) 2 2), (305, .int .i64 2), (306, .int .i64 (((kb : Nat) : Int) : Int))]) (by kernel_rfl) ⟨ra411, rk412, O407, rfl, hE, hX78, hX289, hX299, hX330, hX361, hX392, hR413, bO407_0, (tr hs394 (tr hs409 (tr hs416 hs418))), (tr hs394 (Nat.le_of_eq hzO407))⟩
        ·
         clear hE hX78 hX289 hX299 hX330 hX361 hX392
         rintro L ws Y419 ⟨ra395, rk396, O401, rfl, hE, hX78, hX289, hX299, hX330, hX361, hX392, hR397, bO401_0, hn420, hn421⟩
         have lt422 := bO401_0.lt
         refine qw_then ?_
         refine cw_clean [13, 15, 17, 18, 27, 35, 36, 37, 38, 39, 40, 41, 42, 304, 305, 306] (ws' := [(13, .pointer (some ⟨O13, 0, none⟩)), (15, .bool true), (17, .slice (some ⟨O64, 0, none⟩) 4 4), (18, .slice (some ⟨O74, 0, none⟩) 4 4), (27, .int .i64 (((ib : Nat) : Int) : Int)), (35, .pointer (some ⟨O308, 0, none⟩)), (36, .int .i64 (orE vD 50 : Int)), (37, .pointer (some ⟨O339, 0, none⟩)), (38, .int .i64 (orE vD 50 : Int)), (39, .pointer (some ⟨O370, 0, none⟩)), (40, .int .i64 (orE (vD && Globe.inB (zG) 0 24) 50 : Int)), (41, .pointer (some ⟨O401, 0, none⟩)), (42, .int .i64 (orE (vD && Globe.inB (zG) 0 24) 50 : Int)), (304, .slice (some ⟨O285, 0, none⟩) 2 2), (305, .int .i64 2), (306, .int .i64 (((kb : Nat) : Int) : Int))]) (by kernel_rfl) (fun L => ?_)
         refine cw_seq ?_
         have hX423 : Ext Y419 Y419 := Ext.refl _
         refine cw_plain ?_
         refine pk (.int .i64 (orE vD 50 : Int)) ?_
         refine pk (.int .i64 (orE vD 50 : Int)) ?_
         refine pl_take (.bool false) rfl (by kernel_rfl) (by kernel_rfl) (by kernel_rfl) (ev_nne (show _ = Result.ok (Next.value (Value.bool ((orE vD 50 : Int) != (orE vD 50 : Int)))) _ from by kernel_rfl) (rfl)) ?_
         refine pk (.bool false) ?_
         refine pk (.int .i64 (orE (vD && Globe.inB (zG) 0 24) 50 : Int)) ?_
         refine pk (.int .i64 (orE (vD && Globe.inB (zG) 0 24) 50 : Int)) ?_
         refine pl_take (.bool false) rfl (by kernel_rfl) (by kernel_rfl) (by kernel_rfl) (ev_nne (show _ = Result.ok (Next.value (Value.bool ((orE (vD && Globe.inB (zG) 0 24) 50 : Int) != (orE (vD && Globe.inB (zG) 0 24) 50 : Int)))) _ from by kernel_rfl) (rfl)) ?_
         refine pk (.bool false) ?_
         refine pk (.bool false) ?_
         refine pl_take (.agg #[.slice ra302 ((orL vD (Globe.shiftL lD (modN (uG)))).length) rk303]) rfl (by kernel_rfl) (by kernel_rfl) (by kernel_rfl) (ex_load rfl (by kernel_rfl) (ld25 ((Bx hX330 bO308_0).1))) ?_
         refine pl_take (.agg #[.slice ra333 ((orL vD (Globe.shiftL lD (modN (uG)))).length) rk334]) rfl (by kernel_rfl) (by kernel_rfl) (by kernel_rfl) (ex_load rfl (by kernel_rfl) (ld25 ((Bx hX361 bO339_0).1))) ?_
         refine pl_step rfl (by kernel_rfl) (by kernel_rfl) (by kernel_rfl) (sn_call (f := 21) (args := #[.agg #[.slice ra302 ((orL vD (Globe.shiftL lD (modN (uG)))).length) rk303], .agg #[.slice ra333 ((orL vD (Globe.shiftL lD (modN (uG)))).length) rk334]]) (by kernel_rfl) ((rSame_t _ _ _ (aa_of hR304 (orL_len (by unfold Globe.shiftL; rw [Globe.rowsF_len]; omega))) hX330 (aa_of hR335 (orL_len (by unfold Globe.shiftL; rw [Globe.rowsF_len]; omega))) hX361).mono ?_))
         rintro e w424 ⟨rfl, hb⟩
         replace hE := hE.trans hb
         replace hX78 := hX78.trans hb
         replace hX289 := hX289.trans hb
         replace hX299 := hX299.trans hb
         replace hX330 := hX330.trans hb
         replace hX361 := hX361.trans hb
         replace hX392 := hX392.trans hb
         replace hX423 := hX423.trans hb
         have hs425 := hb.size
         clear hb
         refine ⟨_, rfl, ?_⟩
         refine pk (.bool false) ?_
         refine pk (.bool false) ?_
         refine pk (.bool false) ?_
         refine pl_take (.agg #[.slice ra364 ((orL (vD && Globe.inB (zG) 0 24) (Globe.growL lD (zG).toNat)).length) rk365]) rfl (by kernel_rfl) (by kernel_rfl) (by kernel_rfl) (ex_load rfl (by kernel_rfl) (ld25 ((Bx hX392 bO370_0).1))) ?_
         refine pl_take (.agg #[.slice ra395 ((orL (vD && Globe.inB (zG) 0 24) (Globe.growL lD (zG).toNat)).length) rk396]) rfl (by kernel_rfl) (by kernel_rfl) (by kernel_rfl) (ex_load rfl (by kernel_rfl) (ld25 ((Bx hX423 bO401_0).1))) ?_
         refine pl_step rfl (by kernel_rfl) (by kernel_rfl) (by kernel_rfl) (sn_call (f := 21) (args := #[.agg #[.slice ra364 ((orL (vD && Globe.inB (zG) 0 24) (Globe.growL lD (zG).toNat)).length) rk365], .agg #[.slice ra395 ((orL (vD && Globe.inB (zG) 0 24) (Globe.growL lD (zG).toNat)).length) rk396]]) (by kernel_rfl) ((rSame_t _ _ _ (aa_of hR366 (orL_len (by have := growL_le lD (zG).toNat; have := bnD; omega))) hX392 (aa_of hR397 (orL_len (by have := growL_le lD (zG).toNat; have := bnD; omega))) hX423).mono ?_))
         rintro e w426 ⟨rfl, hb⟩
         replace hE := hE.trans hb
         replace hX78 := hX78.trans hb
         replace hX289 := hX289.trans hb
         replace hX299 := hX299.trans hb
         replace hX330 := hX330.trans hb
         replace hX361 := hX361.trans hb
         replace hX392 := hX392.trans hb
         replace hX423 := hX423.trans hb
         have hs427 := hb.size
         clear hb
         refine ⟨_, rfl, ?_⟩
         refine pk (.bool false) ?_
         refine pk (.bool false) ?_
         refine pl_nil ?_
         refine qw_then ?_
         refine cw_clean [13, 15, 17, 18, 27, 304, 305, 306, 369] (ws' := [(13, .pointer (some ⟨O13, 0, none⟩)), (15, .bool true), (17, .slice (some ⟨O64, 0, none⟩) 4 4), (18, .slice (some ⟨O74, 0, none⟩) 4 4), (27, .int .i64 (((ib : Nat) : Int) : Int)), (304, .slice (some ⟨O285, 0, none⟩) 2 2), (305, .int .i64 2), (306, .int .i64 (((kb : Nat) : Int) : Int)), (369, .bool false)]) (by kernel_rfl) (fun L => ?_)
         refine cw_f (by kernel_rfl) ?_
         refine cw_skip ?_
         refine qw_block ?_
         refine qw_then ?_
         refine cw_plain ?_
         refine pl_take (.int .i64 (((kb + 1 : Nat) : Int) : Int)) rfl (by kernel_rfl) (by kernel_rfl) (by kernel_rfl) (ev_wrap (by kernel_rfl) (by omega) (by omega)) ?_
         refine pk (.int .i64 (((kb + 1 : Nat) : Int) : Int)) ?_
         refine pl_nil ?_
         refine qw_round [13, 15, 17, 18, 27, 304, 305, 306] (ws' := [(13, .pointer (some ⟨O13, 0, none⟩)), (15, .bool true), (17, .slice (some ⟨O64, 0, none⟩) 4 4), (18, .slice (some ⟨O74, 0, none⟩) 4 4), (27, .int .i64 (((ib : Nat) : Int) : Int)), (304, .slice (some ⟨O285, 0, none⟩) 2 2), (305, .int .i64 2), (306, .int .i64 (((kb + 1 : Nat) : Int) : Int))]) (by kernel_rfl) _ ?_ ⟨(kb + 1), rfl, rfl, (tr hs290 (tr hs295 (tr hs298 (tr hn327 (tr hn358 (tr hn389 (tr hn420 (tr hs425 hs427)))))))), hE, hX78, hX289, by omega⟩
         omega
    ·
     refine cw_seq ?_
     refine cw_plain ?_
     refine pl_take (.bool false) rfl (by kernel_rfl) (by kernel_rfl) (by kernel_rfl) (ev_ndec (show _ = Result.ok (Next.value (Value.bool (decide ((((kb : Nat) : Int) : Int) < (2 : Int))))) _ from by kernel_rfl) (by omega)) ?_
     refine pl_nil ?_
     refine qw_then ?_
     refine cw_seq ?_
     refine cw_f (by kernel_rfl) ?_
     refine cw_exit ?_
     refine qw_then_exit ?_
     refine qw_then_exit ?_
     refine qw_block_out ?_
     refine qw_then ?_
     refine cw_seq ?_
     refine cw_plain ?_
     refine pk (.int .i64 0) ?_
     refine pl_nil ?_
     refine qw_then ?_
     refine cw_block ?_
     refine cw_loop [13, 15, 17, 18, 27, 43] (fun ws' wr m => ∃ lb : Nat, ws' = [(13, .pointer (some ⟨O13, 0, none⟩)), (15, .bool true), (17, .slice (some ⟨O64, 0, none⟩) 4 4), (18, .slice (some ⟨O74, 0, none⟩) 4 4), (27, .int .i64 (((ib : Nat) : Int) : Int)), (43, .int .i64 (((lb : Nat) : Int) : Int))] ∧ m = 4 - lb ∧ w291.heap.size ≤ wr.heap.size ∧ Ext w wr ∧ Ext X75 wr ∧ lb ≤ 4) (ws0 := [(13, .pointer (some ⟨O13, 0, none⟩)), (15, .bool true), (17, .slice (some ⟨O64, 0, none⟩) 4 4), (18, .slice (some ⟨O74, 0, none⟩) 4 4), (27, .int .i64 (((ib : Nat) : Int) : Int)), (43, .int .i64 0)]) (by kernel_rfl) _ ⟨0, rfl, rfl, Nat.le_refl _, hE, hX78, by omega⟩ ?_
     clear hE hX78
     rintro m430 L ws w429 ⟨lb, rfl, rfl, hs428, hE, hX78, hilb⟩
     by_cases hlt : lb < 4
     ·
      obtain ⟨aJ, nJ, cJ, lJ, vJ, ceJ, aaJ⟩ := hAr lb hlt
      have bnJ : lJ.length ≤ 140737488355328 := by rw [aaJ.2.1]; exact aaJ.2.2.1
      refine cw_seq ?_
      refine cw_seq ?_
      refine cw_plain ?_
      refine pk (.int .i64 (((lb : Nat) : Int) : Int)) ?_
      refine pk (.slice (some ⟨O64, 0, none⟩) 4 4) ?_
      refine pk (.int .i64 4) ?_
      refine pl_take (.bool true) rfl (by kernel_rfl) (by kernel_rfl) (by kernel_rfl) (ev_dec (show _ = Result.ok (Next.value (Value.bool (decide ((((lb : Nat) : Int) : Int) < (4 : Int))))) _ from by kernel_rfl) (by omega)) ?_
      refine pl_nil ?_
      refine qw_then ?_
      refine cw_t (by kernel_rfl) ?_
      refine cw_skip ?_
      refine qw_then ?_
      refine cw_seq ?_
      refine cw_block ?_
      refine cw_seq ?_
      have hX431 : Ext w429 w429 := Ext.refl _
      refine cw_join (fun ws' Y => ∃ ra434 : Option Addr, ∃ rk435 : Nat, ∃ O440 : Nat, ws' = [(13, .pointer (some ⟨O13, 0, none⟩)), (15, .bool true), (17, .slice (some ⟨O64, 0, none⟩) 4 4), (18, .slice (some ⟨O74, 0, none⟩) 4 4), (27, .int .i64 (((ib : Nat) : Int) : Int)), (43, .int .i64 (((lb : Nat) : Int) : Int)), (44, .pointer (some ⟨O440, 0, none⟩)), (45, .int .i64 (orE (vD && vJ) 50 : Int))] ∧ Ext w Y ∧ Ext X75 Y ∧ Ext w429 Y ∧ IntsAt Y ra434 ((orL (vD && vJ) (Globe.unionL lD lJ))) ∧ BoxAt Y O440 0 (.slice ra434 ((orL (vD && vJ) (Globe.unionL lD lJ)).length) rk435) ∧ w429.heap.size ≤ Y.heap.size ∧ w429.heap.size ≤ O440) (fun hJ => ?_) ?_
      ·
       refine cw_draw [(some 378, [17], []), (some 379, [27], []), (some 380, [378, 379], [0, 1]), (some 381, [380], [2]), (some 382, [17], []), (some 383, [43], []), (some 384, [382, 383], [4, 5]), (some 385, [384], [6]), (some 386, [381, 385], [3, 7]), (some 377, [386], [8]), (some 387, [377], [9]), (some 388, [377], [9]), (some 44, [], []), (none, [44, 387], [12, 10, 8, 0, 1, 2, 3, 4, 5, 6, 7, 8, 9, 10, 12]), (some 45, [388], [11, 13, 0, 1, 2, 3, 4, 5, 6, 7, 8, 9, 10, 11, 12, 13])] (fun w' => w'.cell? ⟨O64, ib, none⟩ = some (.slice aD nD cD) ∧ w'.cell? ⟨O64, lb, none⟩ = some (.slice aJ nJ cJ)) (by kernel_rfl) (by kernel_rfl) (by kernel_rfl) (by kernel_rfl) ((calm_then (calm_block (calm_then (calm_then (calm_block (calm_block (calm_then (calm_then (calm_block (calm_then calm_body))))))))))) (⟨(hX78.cell ceD), (hX78.cell ceJ)⟩) (fun ops Q X432 hb hL hR hK => ?_)
       replace hE := hE.trans hb
       replace hX78 := hX78.trans hb
       replace hX431 := hX431.trans hb
       have hs433 := hb.size
       clear hb
       have hs9 := And.intro (hX78.cell ceD) (hX78.cell ceJ)
       refine wk 0 (.slice (some ⟨O64, 0, none⟩) 4 4) hR hs9 ?_
       refine wk 1 (.int .i64 (((ib : Nat) : Int) : Int)) hR hs9 ?_
       refine wl 2 (.pointer (some ⟨O64, ib, none⟩)) hR hs9 rfl (fun w _ => ex_index (p := .slice (some ⟨O64, 0, none⟩) 4 4) (i := .int .i64 ((ib : Nat) : Int)) rfl (by kernel_rfl) (by kernel_rfl) (ix33z (k := ib) (by omega))) ?_
       refine wl 3 (.agg #[.slice aD nD cD]) hR hs9 rfl (fun w hS => ex_load rfl (by kernel_rfl) (ld25 (hS.1))) ?_
       refine wk 4 (.slice (some ⟨O64, 0, none⟩) 4 4) hR hs9 ?_
       refine wk 5 (.int .i64 (((lb : Nat) : Int) : Int)) hR hs9 ?_
       refine wl 6 (.pointer (some ⟨O64, lb, none⟩)) hR hs9 rfl (fun w _ => ex_index (p := .slice (some ⟨O64, 0, none⟩) 4 4) (i := .int .i64 ((lb : Nat) : Int)) rfl (by kernel_rfl) (by kernel_rfl) (ix33z (k := lb) (by omega))) ?_
       refine wl 7 (.agg #[.slice aJ nJ cJ]) hR hs9 rfl (fun w hS => ex_load rfl (by kernel_rfl) (ld25 (hS.2))) ?_
       refine wd_two 8 12 hR rfl rfl (by kernel_rfl) (by kernel_rfl) (by kernel_rfl) (by kernel_rfl) ?_ ?_
       ·
        refine sn_call (f := 37) (args := #[.agg #[.slice aD nD cD], .agg #[.slice aJ nJ cJ]]) (by kernel_rfl) ((Union_c _ _ _ aaD hX78 aaJ hX78).mono ?_)
        rintro e w438 ⟨ra434, rk435, rfl, hR436, hb, hfr437⟩
        replace hE := hE.trans hb
        replace hX78 := hX78.trans hb
        replace hX431 := hX431.trans hb
        have hs439 := hb.size
        clear hb
        refine ⟨_, rfl, ⟨(hX78.cell ceD), (hX78.cell ceJ)⟩, ?_⟩
        have hs9 := And.intro (hX78.cell ceD) (hX78.cell ceJ)
        refine wk 9 (.tuple #[.agg #[.slice ra434 ((orL (vD && vJ) (Globe.unionL lD lJ)).length) rk435], .int .i64 (orE (vD && vJ) 50 : Int)]) hR hs9 ?_
        refine wl 10 (.agg #[.slice ra434 ((orL (vD && vJ) (Globe.unionL lD lJ)).length) rk435]) hR hs9 rfl (fun w _ => by kernel_rfl) ?_
        refine wk 11 (.int .i64 (orE (vD && vJ) 50 : Int)) hR hs9 ?_
        refine wd_step 12 hR rfl (by kernel_rfl) (by kernel_rfl) (by kernel_rfl) (sn_new (us := #[.slice none 0 0]) (t := 25) (by kernel_rfl) ?_)
        intro O440 X441 hO hOs hb hbx
        have hzO440 := hO; have hyO440 := hOs; clear hO hOs
        have bO440_0 : BoxAt X441 O440 0 (.slice none 0 0) := hbx 0 _ rfl
        clear hbx
        replace hE := hE.trans hb
        replace hX78 := hX78.trans hb
        replace hX431 := hX431.trans hb
        replace hR436 := hR436.ext hb
        have hs442 := hb.size
        clear hb
        have lt443 := bO440_0.lt
        refine ⟨⟨(hX78.cell ceD), (hX78.cell ceJ)⟩, ?_⟩
        refine wd_step 13 hR rfl (by kernel_rfl) (by kernel_rfl) (by kernel_rfl) (sn_set (O := O440) (j := 0) (v := .slice ra434 ((orL (vD && vJ) (Globe.unionL lD lJ)).length) rk435) (ex_store (p := .pointer (some ⟨O440, 0, none⟩)) (v := .agg #[.slice ra434 ((orL (vD && vJ) (Globe.unionL lD lJ)).length) rk435]) rfl (by kernel_rfl) (by kernel_rfl) (st25 bO440_0.1 bO440_0.2)) bO440_0 ?_)
        intro X444 ho hv0 hk
        replace hE := ho.ext hE (tr (tr hs3 (tr hs7 (tr hs11 (tr hs15 (tr hs18 (tr hs26 (tr hs31 (tr hs34 (tr hs36 (tr hs39 (tr hs41 (tr hs49 (tr hs59 (tr hs63 (tr hs66 (tr hs69 (tr hs71 (tr hs73 (tr hs76 (tr hs79 (tr hs180 (tr hs184 (tr hs186 (tr hs188 (tr hs190 (tr hs192 (tr hs197 (tr hs203 (tr hs206 (tr hs207 (tr hs282 (tr hs287 (tr hs290 (tr hs428 (tr hs433 hs439))))))))))))))))))))))))))))))))))) (Nat.le_of_eq hzO440))
        replace hX78 := ho.ext hX78 (tr (tr hs79 (tr hs180 (tr hs184 (tr hs186 (tr hs188 (tr hs190 (tr hs192 (tr hs197 (tr hs203 (tr hs206 (tr hs207 (tr hs282 (tr hs287 (tr hs290 (tr hs428 (tr hs433 hs439)))))))))))))))) (Nat.le_of_eq hzO440))
        replace hX431 := ho.ext hX431 (tr (tr hs433 hs439) (Nat.le_of_eq hzO440))
        replace hR436 := ho.ints (fun ad e => Nat.ne_of_lt (Nat.lt_of_lt_of_le (hfr437 ad e).2 (Nat.le_of_eq hzO440))) hR436
        have hs445 : X441.heap.size ≤ X444.heap.size := Nat.le_of_eq ho.size.symm
        clear ho hk bO440_0
        have bO440_0 := hv0; clear hv0
        refine ⟨⟨(hX78.cell ceD), (hX78.cell ceJ)⟩, ?_⟩
        refine wk 14 (.int .i64 (orE (vD && vJ) 50 : Int)) hR (⟨(hX78.cell ceD), (hX78.cell ceJ)⟩) ?_
        refine wd_end hL hR hK (by kernel_rfl) ?_
        exact qw_leaf hJ [13, 15, 17, 18, 27, 43, 44, 45] (ws' := [(13, .pointer (some ⟨O13, 0, none⟩)), (15, .bool true), (17, .slice (some ⟨O64, 0, none⟩) 4 4), (18, .slice (some ⟨O74, 0, none⟩) 4 4), (27, .int .i64 (((ib : Nat) : Int) : Int)), (43, .int .i64 (((lb : Nat) : Int) : Int)), (44, .pointer (some ⟨O440, 0, none⟩)), (45, .int .i64 (orE (vD && vJ) 50 : Int))]) (by kernel_rfl) ⟨ra434, rk435, O440, rfl, hE, hX78, hX431, hR436, bO440_0, (tr hs433 (tr hs439 (tr hs442 hs445))), (tr (tr hs433 hs439) (Nat.le_of_eq hzO440))⟩
       ·
        refine sn_new (us := #[.slice none 0 0]) (t := 25) (by kernel_rfl) ?_
        intro O446 X447 hO hOs hb hbx
        have hzO446 := hO; have hyO446 := hOs; clear hO hOs
        have bO446_0 : BoxAt X447 O446 0 (.slice none 0 0) := hbx 0 _ rfl
        clear hbx
        replace hE := hE.trans hb
        replace hX78 := hX78.trans hb
        replace hX431 := hX431.trans hb
        have hs448 := hb.size
        clear hb
        have lt449 := bO446_0.lt
        refine ⟨⟨(hX78.cell ceD), (hX78.cell ceJ)⟩, ?_⟩
        refine wd_step 8 hR rfl (by kernel_rfl) (by kernel_rfl) (by kernel_rfl) (sn_call (f := 37) (args := #[.agg #[.slice aD nD cD], .agg #[.slice aJ nJ cJ]]) (by kernel_rfl) ((Union_c _ _ _ aaD hX78 aaJ hX78).mono ?_))
        rintro e w454 ⟨ra450, rk451, rfl, hR452, hb, hfr453⟩
        replace hE := hE.trans hb
        replace hX78 := hX78.trans hb
        replace hX431 := hX431.trans hb
        replace bO446_0 := Bx hb bO446_0
        have hs455 := hb.size
        clear hb
        refine ⟨_, rfl, ⟨(hX78.cell ceD), (hX78.cell ceJ)⟩, ?_⟩
        have hs9 := And.intro (hX78.cell ceD) (hX78.cell ceJ)
        refine wk 9 (.tuple #[.agg #[.slice ra450 ((orL (vD && vJ) (Globe.unionL lD lJ)).length) rk451], .int .i64 (orE (vD && vJ) 50 : Int)]) hR hs9 ?_
        refine wl 10 (.agg #[.slice ra450 ((orL (vD && vJ) (Globe.unionL lD lJ)).length) rk451]) hR hs9 rfl (fun w _ => by kernel_rfl) ?_
        refine wk 11 (.int .i64 (orE (vD && vJ) 50 : Int)) hR hs9 ?_
        refine wd_step 13 hR rfl (by kernel_rfl) (by kernel_rfl) (by kernel_rfl) (sn_set (O := O446) (j := 0) (v := .slice ra450 ((orL (vD && vJ) (Globe.unionL lD lJ)).length) rk451) (ex_store (p := .pointer (some ⟨O446, 0, none⟩)) (v := .agg #[.slice ra450 ((orL (vD && vJ) (Globe.unionL lD lJ)).length) rk451]) rfl (by kernel_rfl) (by kernel_rfl) (st25 bO446_0.1 bO446_0.2)) bO446_0 ?_)
        intro X456 ho hv0 hk
        replace hE := ho.ext hE (tr (tr hs3 (tr hs7 (tr hs11 (tr hs15 (tr hs18 (tr hs26 (tr hs31 (tr hs34 (tr hs36 (tr hs39 (tr hs41 (tr hs49 (tr hs59 (tr hs63 (tr hs66 (tr hs69 (tr hs71 (tr hs73 (tr hs76 (tr hs79 (tr hs180 (tr hs184 (tr hs186 (tr hs188 (tr hs190 (tr hs192 (tr hs197 (tr hs203 (tr hs206 (tr hs207 (tr hs282 (tr hs287 (tr hs290 (tr hs428 hs433)))))))))))))))))))))))))))))))))) (Nat.le_of_eq hzO446))
        replace hX78 := ho.ext hX78 (tr (tr hs79 (tr hs180 (tr hs184 (tr hs186 (tr hs188 (tr hs190 (tr hs192 (tr hs197 (tr hs203 (tr hs206 (tr hs207 (tr hs282 (tr hs287 (tr hs290 (tr hs428 hs433))))))))))))))) (Nat.le_of_eq hzO446))
        replace hX431 := ho.ext hX431 (tr hs433 (Nat.le_of_eq hzO446))
        replace hR452 := ho.ints (fun ad e => Nat.ne_of_gt (Nat.lt_of_lt_of_le lt449 (tr (Nat.le_refl _) (hfr453 ad e).1))) hR452
        have hs457 : w454.heap.size ≤ X456.heap.size := Nat.le_of_eq ho.size.symm
        clear ho hk bO446_0
        have bO446_0 := hv0; clear hv0
        refine ⟨⟨(hX78.cell ceD), (hX78.cell ceJ)⟩, ?_⟩
        refine wk 14 (.int .i64 (orE (vD && vJ) 50 : Int)) hR (⟨(hX78.cell ceD), (hX78.cell ceJ)⟩) ?_
        refine wd_end hL hR hK (by kernel_rfl) ?_
        exact qw_leaf hJ [13, 15, 17, 18, 27, 43, 44, 45] (ws' := [(13, .pointer (some ⟨O13, 0, none⟩)), (15, .bool true), (17, .slice (some ⟨O64, 0, none⟩) 4 4), (18, .slice (some ⟨O74, 0, none⟩) 4 4), (27, .int .i64 (((ib : Nat) : Int) : Int)), (43, .int .i64 (((lb : Nat) : Int) : Int)), (44, .pointer (some ⟨O446, 0, none⟩)), (45, .int .i64 (orE (vD && vJ) 50 : Int))]) (by kernel_rfl) ⟨ra450, rk451, O446, rfl, hE, hX78, hX431, hR452, bO446_0, (tr hs433 (tr hs448 (tr hs455 hs457))), (tr hs433 (Nat.le_of_eq hzO446))⟩
      ·
       clear hE hX78 hX431
       rintro L ws Y458 ⟨ra434, rk435, O440, rfl, hE, hX78, hX431, hR436, bO440_0, hn459, hn460⟩
       have lt461 := bO440_0.lt
       refine qw_then ?_
       refine cw_seq ?_
       have hX462 : Ext Y458 Y458 := Ext.refl _
       refine cw_join (fun ws' Y => ∃ ra465 : Option Addr, ∃ rk466 : Nat, ∃ O471 : Nat, ws' = [(13, .pointer (some ⟨O13, 0, none⟩)), (15, .bool true), (17, .slice (some ⟨O64, 0, none⟩) 4 4), (18, .slice (some ⟨O74, 0, none⟩) 4 4), (27, .int .i64 (((ib : Nat) : Int) : Int)), (43, .int .i64 (((lb : Nat) : Int) : Int)), (44, .pointer (some ⟨O440, 0, none⟩)), (45, .int .i64 (orE (vD && vJ) 50 : Int)), (46, .pointer (some ⟨O471, 0, none⟩)), (47, .int .i64 (orE (vD && vJ) 50 : Int))] ∧ Ext w Y ∧ Ext X75 Y ∧ Ext w429 Y ∧ Ext Y458 Y ∧ IntsAt Y ra465 ((orL (vD && vJ) (Globe.unionL lD lJ))) ∧ BoxAt Y O471 0 (.slice ra465 ((orL (vD && vJ) (Globe.unionL lD lJ)).length) rk466) ∧ Y458.heap.size ≤ Y.heap.size ∧ Y458.heap.size ≤ O471) (fun hJ => ?_) ?_
       ·
        refine cw_draw [(some 390, [17], []), (some 391, [27], []), (some 392, [390, 391], [0, 1]), (some 393, [392], [2]), (some 394, [17], []), (some 395, [43], []), (some 396, [394, 395], [4, 5]), (some 397, [396], [6]), (some 398, [393, 397], [3, 7]), (some 389, [398], [8]), (some 399, [389], [9]), (some 400, [389], [9]), (some 46, [], []), (none, [46, 399], [12, 10, 8, 0, 1, 2, 3, 4, 5, 6, 7, 8, 9, 10, 12]), (some 47, [400], [11, 13, 0, 1, 2, 3, 4, 5, 6, 7, 8, 9, 10, 11, 12, 13])] (fun w' => w'.cell? ⟨O64, ib, none⟩ = some (.slice aD nD cD) ∧ w'.cell? ⟨O64, lb, none⟩ = some (.slice aJ nJ cJ)) (by kernel_rfl) (by kernel_rfl) (by kernel_rfl) (by kernel_rfl) ((calm_then (calm_block (calm_then (calm_then (calm_block (calm_block (calm_then (calm_then (calm_block (calm_then calm_body))))))))))) (⟨(hX78.cell ceD), (hX78.cell ceJ)⟩) (fun ops Q X463 hb hL hR hK => ?_)
        replace hE := hE.trans hb
        replace hX78 := hX78.trans hb
        replace hX431 := hX431.trans hb
        replace hX462 := hX462.trans hb
        have hs464 := hb.size
        clear hb
        have hs9 := And.intro (hX78.cell ceD) (hX78.cell ceJ)
        refine wk 0 (.slice (some ⟨O64, 0, none⟩) 4 4) hR hs9 ?_
        refine wk 1 (.int .i64 (((ib : Nat) : Int) : Int)) hR hs9 ?_
        refine wl 2 (.pointer (some ⟨O64, ib, none⟩)) hR hs9 rfl (fun w _ => ex_index (p := .slice (some ⟨O64, 0, none⟩) 4 4) (i := .int .i64 ((ib : Nat) : Int)) rfl (by kernel_rfl) (by kernel_rfl) (ix33z (k := ib) (by omega))) ?_
        refine wl 3 (.agg #[.slice aD nD cD]) hR hs9 rfl (fun w hS => ex_load rfl (by kernel_rfl) (ld25 (hS.1))) ?_
        refine wk 4 (.slice (some ⟨O64, 0, none⟩) 4 4) hR hs9 ?_
        refine wk 5 (.int .i64 (((lb : Nat) : Int) : Int)) hR hs9 ?_
        refine wl 6 (.pointer (some ⟨O64, lb, none⟩)) hR hs9 rfl (fun w _ => ex_index (p := .slice (some ⟨O64, 0, none⟩) 4 4) (i := .int .i64 ((lb : Nat) : Int)) rfl (by kernel_rfl) (by kernel_rfl) (ix33z (k := lb) (by omega))) ?_
        refine wl 7 (.agg #[.slice aJ nJ cJ]) hR hs9 rfl (fun w hS => ex_load rfl (by kernel_rfl) (ld25 (hS.2))) ?_
        refine wd_two 8 12 hR rfl rfl (by kernel_rfl) (by kernel_rfl) (by kernel_rfl) (by kernel_rfl) ?_ ?_
        ·
         refine sn_call (f := 38) (args := #[.agg #[.slice aD nD cD], .agg #[.slice aJ nJ cJ]]) (by kernel_rfl) ((rUnion_c _ _ _ aaD hX78 aaJ hX78).mono ?_)
         rintro e w469 ⟨ra465, rk466, rfl, hR467, hb, hfr468⟩
         replace hE := hE.trans hb
         replace hX78 := hX78.trans hb
         replace hX431 := hX431.trans hb
         replace hX462 := hX462.trans hb
         have hs470 := hb.size
         clear hb
         refine ⟨_, rfl, ⟨(hX78.cell ceD), (hX78.cell ceJ)⟩, ?_⟩
         have hs9 := And.intro (hX78.cell ceD) (hX78.cell ceJ)
         refine wk 9 (.tuple #[.agg #[.slice ra465 ((orL (vD && vJ) (Globe.unionL lD lJ)).length) rk466], .int .i64 (orE (vD && vJ) 50 : Int)]) hR hs9 ?_
         refine wl 10 (.agg #[.slice ra465 ((orL (vD && vJ) (Globe.unionL lD lJ)).length) rk466]) hR hs9 rfl (fun w _ => by kernel_rfl) ?_
         refine wk 11 (.int .i64 (orE (vD && vJ) 50 : Int)) hR hs9 ?_
         refine wd_step 12 hR rfl (by kernel_rfl) (by kernel_rfl) (by kernel_rfl) (sn_new (us := #[.slice none 0 0]) (t := 25) (by kernel_rfl) ?_)
         intro O471 X472 hO hOs hb hbx
         have hzO471 := hO; have hyO471 := hOs; clear hO hOs
         have bO471_0 : BoxAt X472 O471 0 (.slice none 0 0) := hbx 0 _ rfl
         clear hbx
         replace hE := hE.trans hb
         replace hX78 := hX78.trans hb
         replace hX431 := hX431.trans hb
         replace hX462 := hX462.trans hb
         replace hR467 := hR467.ext hb
         have hs473 := hb.size
         clear hb
         have lt474 := bO471_0.lt
         refine ⟨⟨(hX78.cell ceD), (hX78.cell ceJ)⟩, ?_⟩
         refine wd_step 13 hR rfl (by kernel_rfl) (by kernel_rfl) (by kernel_rfl) (sn_set (O := O471) (j := 0) (v := .slice ra465 ((orL (vD && vJ) (Globe.unionL lD lJ)).length) rk466) (ex_store (p := .pointer (some ⟨O471, 0, none⟩)) (v := .agg #[.slice ra465 ((orL (vD && vJ) (Globe.unionL lD lJ)).length) rk466]) rfl (by kernel_rfl) (by kernel_rfl) (st25 bO471_0.1 bO471_0.2)) bO471_0 ?_)
         intro X475 ho hv0 hk
         replace hE := ho.ext hE (tr (tr hs3 (tr hs7 (tr hs11 (tr hs15 (tr hs18 (tr hs26 (tr hs31 (tr hs34 (tr hs36 (tr hs39 (tr hs41 (tr hs49 (tr hs59 (tr hs63 (tr hs66 (tr hs69 (tr hs71 (tr hs73 (tr hs76 (tr hs79 (tr hs180 (tr hs184 (tr hs186 (tr hs188 (tr hs190 (tr hs192 (tr hs197 (tr hs203 (tr hs206 (tr hs207 (tr hs282 (tr hs287 (tr hs290 (tr hs428 (tr hn459 (tr hs464 hs470)))))))))))))))))))))))))))))))))))) (Nat.le_of_eq hzO471))
         replace hX78 := ho.ext hX78 (tr (tr hs79 (tr hs180 (tr hs184 (tr hs186 (tr hs188 (tr hs190 (tr hs192 (tr hs197 (tr hs203 (tr hs206 (tr hs207 (tr hs282 (tr hs287 (tr hs290 (tr hs428 (tr hn459 (tr hs464 hs470))))))))))))))))) (Nat.le_of_eq hzO471))
         replace hX431 := ho.ext hX431 (tr (tr hn459 (tr hs464 hs470)) (Nat.le_of_eq hzO471))
         replace hX462 := ho.ext hX462 (tr (tr hs464 hs470) (Nat.le_of_eq hzO471))
         replace hR467 := ho.ints (fun ad e => Nat.ne_of_lt (Nat.lt_of_lt_of_le (hfr468 ad e).2 (Nat.le_of_eq hzO471))) hR467
         have hs476 : X472.heap.size ≤ X475.heap.size := Nat.le_of_eq ho.size.symm
         clear ho hk bO471_0
         have bO471_0 := hv0; clear hv0
         refine ⟨⟨(hX78.cell ceD), (hX78.cell ceJ)⟩, ?_⟩
         refine wk 14 (.int .i64 (orE (vD && vJ) 50 : Int)) hR (⟨(hX78.cell ceD), (hX78.cell ceJ)⟩) ?_
         refine wd_end hL hR hK (by kernel_rfl) ?_
         exact qw_leaf hJ [13, 15, 17, 18, 27, 43, 44, 45, 46, 47] (ws' := [(13, .pointer (some ⟨O13, 0, none⟩)), (15, .bool true), (17, .slice (some ⟨O64, 0, none⟩) 4 4), (18, .slice (some ⟨O74, 0, none⟩) 4 4), (27, .int .i64 (((ib : Nat) : Int) : Int)), (43, .int .i64 (((lb : Nat) : Int) : Int)), (44, .pointer (some ⟨O440, 0, none⟩)), (45, .int .i64 (orE (vD && vJ) 50 : Int)), (46, .pointer (some ⟨O471, 0, none⟩)), (47, .int .i64 (orE (vD && vJ) 50 : Int))]) (by kernel_rfl) ⟨ra465, rk466, O471, rfl, hE, hX78, hX431, hX462, hR467, bO471_0, (tr hs464 (tr hs470 (tr hs473 hs476))), (tr (tr hs464 hs470) (Nat.le_of_eq hzO471))⟩
        ·
         refine sn_new (us := #[.slice none 0 0]) (t := 25) (by kernel_rfl) ?_
         intro O477 X478 hO hOs hb hbx
         have hzO477 := hO; have hyO477 := hOs; clear hO hOs
         have bO477_0 : BoxAt X478 O477 0 (.slice none 0 0) := hbx 0 _ rfl
         clear hbx
         replace hE := hE.trans hb
         replace hX78 := hX78.trans hb
         replace hX431 := hX431.trans hb
         replace hX462 := hX462.trans hb
         have hs479 := hb.size
         clear hb
         have lt480 := bO477_0.lt
         refine ⟨⟨(hX78.cell ceD), (hX78.cell ceJ)⟩, ?_⟩
         refine wd_step 8 hR rfl (by kernel_rfl) (by kernel_rfl) (by kernel_rfl) (sn_call (f := 38) (args := #[.agg #[.slice aD nD cD], .agg #[.slice aJ nJ cJ]]) (by kernel_rfl) ((rUnion_c _ _ _ aaD hX78 aaJ hX78).mono ?_))
         rintro e w485 ⟨ra481, rk482, rfl, hR483, hb, hfr484⟩
         replace hE := hE.trans hb
         replace hX78 := hX78.trans hb
         replace hX431 := hX431.trans hb
         replace hX462 := hX462.trans hb
         replace bO477_0 := Bx hb bO477_0
         have hs486 := hb.size
         clear hb
         refine ⟨_, rfl, ⟨(hX78.cell ceD), (hX78.cell ceJ)⟩, ?_⟩
         have hs9 := And.intro (hX78.cell ceD) (hX78.cell ceJ)
         refine wk 9 (.tuple #[.agg #[.slice ra481 ((orL (vD && vJ) (Globe.unionL lD lJ)).length) rk482], .int .i64 (orE (vD && vJ) 50 : Int)]) hR hs9 ?_
         refine wl 10 (.agg #[.slice ra481 ((orL (vD && vJ) (Globe.unionL lD lJ)).length) rk482]) hR hs9 rfl (fun w _ => by kernel_rfl) ?_
         refine wk 11 (.int .i64 (orE (vD && vJ) 50 : Int)) hR hs9 ?_
         refine wd_step 13 hR rfl (by kernel_rfl) (by kernel_rfl) (by kernel_rfl) (sn_set (O := O477) (j := 0) (v := .slice ra481 ((orL (vD && vJ) (Globe.unionL lD lJ)).length) rk482) (ex_store (p := .pointer (some ⟨O477, 0, none⟩)) (v := .agg #[.slice ra481 ((orL (vD && vJ) (Globe.unionL lD lJ)).length) rk482]) rfl (by kernel_rfl) (by kernel_rfl) (st25 bO477_0.1 bO477_0.2)) bO477_0 ?_)
         intro X487 ho hv0 hk
         replace hE := ho.ext hE (tr (tr hs3 (tr hs7 (tr hs11 (tr hs15 (tr hs18 (tr hs26 (tr hs31 (tr hs34 (tr hs36 (tr hs39 (tr hs41 (tr hs49 (tr hs59 (tr hs63 (tr hs66 (tr hs69 (tr hs71 (tr hs73 (tr hs76 (tr hs79 (tr hs180 (tr hs184 (tr hs186 (tr hs188 (tr hs190 (tr hs192 (tr hs197 (tr hs203 (tr hs206 (tr hs207 (tr hs282 (tr hs287 (tr hs290 (tr hs428 (tr hn459 hs464))))))))))))))))))))))))))))))))))) (Nat.le_of_eq hzO477))
         replace hX78 := ho.ext hX78 (tr (tr hs79 (tr hs180 (tr hs184 (tr hs186 (tr hs188 (tr hs190 (tr hs192 (tr hs197 (tr hs203 (tr hs206 (tr hs207 (tr hs282 (tr hs287 (tr hs290 (tr hs428 (tr hn459 hs464)))))))))))))))) (Nat.le_of_eq hzO477))
         replace hX431 := ho.ext hX431 (tr (tr hn459 hs464) (Nat.le_of_eq hzO477))
         replace hX462 := ho.ext hX462 (tr hs464 (Nat.le_of_eq hzO477))
         replace hR483 := ho.ints (fun ad e => Nat.ne_of_gt (Nat.lt_of_lt_of_le lt480 (tr (Nat.le_refl _) (hfr484 ad e).1))) hR483
         have hs488 : w485.heap.size ≤ X487.heap.size := Nat.le_of_eq ho.size.symm
         clear ho hk bO477_0
         have bO477_0 := hv0; clear hv0
         refine ⟨⟨(hX78.cell ceD), (hX78.cell ceJ)⟩, ?_⟩
         refine wk 14 (.int .i64 (orE (vD && vJ) 50 : Int)) hR (⟨(hX78.cell ceD), (hX78.cell ceJ)⟩) ?_
         refine wd_end hL hR hK (by kernel_rfl) ?_
         exact qw_leaf hJ [13, 15, 17, 18, 27, 43, 44, 45, 46, 47] (ws' := [(13, .pointer (some ⟨O13, 0, none⟩)), (15, .bool true), (17, .slice (some ⟨O64, 0, none⟩) 4 4), (18, .slice (some ⟨O74, 0, none⟩) 4 4), (27, .int .i64 (((ib : Nat) : Int) : Int)), (43, .int .i64 (((lb : Nat) : Int) : Int)), (44, .pointer (some ⟨O440, 0, none⟩)), (45, .int .i64 (orE (vD && vJ) 50 : Int)), (46, .pointer (some ⟨O477, 0, none⟩)), (47, .int .i64 (orE (vD && vJ) 50 : Int))]) (by kernel_rfl) ⟨ra481, rk482, O477, rfl, hE, hX78, hX431, hX462, hR483, bO477_0, (tr hs464 (tr hs479 (tr hs486 hs488))), (tr hs464 (Nat.le_of_eq hzO477))⟩
       ·
        clear hE hX78 hX431 hX462
        rintro L ws Y489 ⟨ra465, rk466, O471, rfl, hE, hX78, hX431, hX462, hR467, bO471_0, hn490, hn491⟩
        have lt492 := bO471_0.lt
        refine qw_then ?_
        refine cw_seq ?_
        have hX493 : Ext Y489 Y489 := Ext.refl _
        refine cw_join (fun ws' Y => ∃ ra496 : Option Addr, ∃ rk497 : Nat, ∃ O502 : Nat, ws' = [(13, .pointer (some ⟨O13, 0, none⟩)), (15, .bool true), (17, .slice (some ⟨O64, 0, none⟩) 4 4), (18, .slice (some ⟨O74, 0, none⟩) 4 4), (27, .int .i64 (((ib : Nat) : Int) : Int)), (43, .int .i64 (((lb : Nat) : Int) : Int)), (44, .pointer (some ⟨O440, 0, none⟩)), (45, .int .i64 (orE (vD && vJ) 50 : Int)), (46, .pointer (some ⟨O471, 0, none⟩)), (47, .int .i64 (orE (vD && vJ) 50 : Int)), (48, .pointer (some ⟨O502, 0, none⟩)), (49, .int .i64 (orE (vD && vJ) 50 : Int))] ∧ Ext w Y ∧ Ext X75 Y ∧ Ext w429 Y ∧ Ext Y458 Y ∧ Ext Y489 Y ∧ IntsAt Y ra496 ((orL (vD && vJ) (Globe.meetL lD lJ))) ∧ BoxAt Y O502 0 (.slice ra496 ((orL (vD && vJ) (Globe.meetL lD lJ)).length) rk497) ∧ Y489.heap.size ≤ Y.heap.size ∧ Y489.heap.size ≤ O502) (fun hJ => ?_) ?_
        ·
         refine cw_draw [(some 402, [17], []), (some 403, [27], []), (some 404, [402, 403], [0, 1]), (some 405, [404], [2]), (some 406, [17], []), (some 407, [43], []), (some 408, [406, 407], [4, 5]), (some 409, [408], [6]), (some 410, [405, 409], [3, 7]), (some 401, [410], [8]), (some 411, [401], [9]), (some 412, [401], [9]), (some 48, [], []), (none, [48, 411], [12, 10, 8, 0, 1, 2, 3, 4, 5, 6, 7, 8, 9, 10, 12]), (some 49, [412], [11, 13, 0, 1, 2, 3, 4, 5, 6, 7, 8, 9, 10, 11, 12, 13])] (fun w' => w'.cell? ⟨O64, ib, none⟩ = some (.slice aD nD cD) ∧ w'.cell? ⟨O64, lb, none⟩ = some (.slice aJ nJ cJ)) (by kernel_rfl) (by kernel_rfl) (by kernel_rfl) (by kernel_rfl) ((calm_then (calm_block (calm_then (calm_then (calm_block (calm_block (calm_then (calm_then (calm_block (calm_then calm_body))))))))))) (⟨(hX78.cell ceD), (hX78.cell ceJ)⟩) (fun ops Q X494 hb hL hR hK => ?_)
         replace hE := hE.trans hb
         replace hX78 := hX78.trans hb
         replace hX431 := hX431.trans hb
         replace hX462 := hX462.trans hb
         replace hX493 := hX493.trans hb
         have hs495 := hb.size
         clear hb
         have hs9 := And.intro (hX78.cell ceD) (hX78.cell ceJ)
         refine wk 0 (.slice (some ⟨O64, 0, none⟩) 4 4) hR hs9 ?_
         refine wk 1 (.int .i64 (((ib : Nat) : Int) : Int)) hR hs9 ?_
         refine wl 2 (.pointer (some ⟨O64, ib, none⟩)) hR hs9 rfl (fun w _ => ex_index (p := .slice (some ⟨O64, 0, none⟩) 4 4) (i := .int .i64 ((ib : Nat) : Int)) rfl (by kernel_rfl) (by kernel_rfl) (ix33z (k := ib) (by omega))) ?_
         refine wl 3 (.agg #[.slice aD nD cD]) hR hs9 rfl (fun w hS => ex_load rfl (by kernel_rfl) (ld25 (hS.1))) ?_
         refine wk 4 (.slice (some ⟨O64, 0, none⟩) 4 4) hR hs9 ?_
         refine wk 5 (.int .i64 (((lb : Nat) : Int) : Int)) hR hs9 ?_
         refine wl 6 (.pointer (some ⟨O64, lb, none⟩)) hR hs9 rfl (fun w _ => ex_index (p := .slice (some ⟨O64, 0, none⟩) 4 4) (i := .int .i64 ((lb : Nat) : Int)) rfl (by kernel_rfl) (by kernel_rfl) (ix33z (k := lb) (by omega))) ?_
         refine wl 7 (.agg #[.slice aJ nJ cJ]) hR hs9 rfl (fun w hS => ex_load rfl (by kernel_rfl) (ld25 (hS.2))) ?_
         refine wd_two 8 12 hR rfl rfl (by kernel_rfl) (by kernel_rfl) (by kernel_rfl) (by kernel_rfl) ?_ ?_
         ·
          refine sn_call (f := 39) (args := #[.agg #[.slice aD nD cD], .agg #[.slice aJ nJ cJ]]) (by kernel_rfl) ((Meet_c _ _ _ aaD hX78 aaJ hX78).mono ?_)
          rintro e w500 ⟨ra496, rk497, rfl, hR498, hb, hfr499⟩
          replace hE := hE.trans hb
          replace hX78 := hX78.trans hb
          replace hX431 := hX431.trans hb
          replace hX462 := hX462.trans hb
          replace hX493 := hX493.trans hb
          have hs501 := hb.size
          clear hb
          refine ⟨_, rfl, ⟨(hX78.cell ceD), (hX78.cell ceJ)⟩, ?_⟩
          have hs9 := And.intro (hX78.cell ceD) (hX78.cell ceJ)
          refine wk 9 (.tuple #[.agg #[.slice ra496 ((orL (vD && vJ) (Globe.meetL lD lJ)).length) rk497], .int .i64 (orE (vD && vJ) 50 : Int)]) hR hs9 ?_
          refine wl 10 (.agg #[.slice ra496 ((orL (vD && vJ) (Globe.meetL lD lJ)).length) rk497]) hR hs9 rfl (fun w _ => by kernel_rfl) ?_
          refine wk 11 (.int .i64 (orE (vD && vJ) 50 : Int)) hR hs9 ?_
          refine wd_step 12 hR rfl (by kernel_rfl) (by kernel_rfl) (by kernel_rfl) (sn_new (us := #[.slice none 0 0]) (t := 25) (by kernel_rfl) ?_)
          intro O502 X503 hO hOs hb hbx
          have hzO502 := hO; have hyO502 := hOs; clear hO hOs
          have bO502_0 : BoxAt X503 O502 0 (.slice none 0 0) := hbx 0 _ rfl
          clear hbx
          replace hE := hE.trans hb
          replace hX78 := hX78.trans hb
          replace hX431 := hX431.trans hb
          replace hX462 := hX462.trans hb
          replace hX493 := hX493.trans hb
          replace hR498 := hR498.ext hb
          have hs504 := hb.size
          clear hb
          have lt505 := bO502_0.lt
          refine ⟨⟨(hX78.cell ceD), (hX78.cell ceJ)⟩, ?_⟩
          refine wd_step 13 hR rfl (by kernel_rfl) (by kernel_rfl) (by kernel_rfl) (sn_set (O := O502) (j := 0) (v := .slice ra496 ((orL (vD && vJ) (Globe.meetL lD lJ)).length) rk497) (ex_store (p := .pointer (some ⟨O502, 0, none⟩)) (v := .agg #[.slice ra496 ((orL (vD && vJ) (Globe.meetL lD lJ)).length) rk497]) rfl (by kernel_rfl) (by kernel_rfl) (st25 bO502_0.1 bO502_0.2)) bO502_0 ?_)
          intro X506 ho hv0 hk
          replace hE := ho.ext hE (tr (tr hs3 (tr hs7 (tr hs11 (tr hs15 (tr hs18 (tr hs26 (tr hs31 (tr hs34 (tr hs36 (tr hs39 (tr hs41 (tr hs49 (tr hs59 (tr hs63 (tr hs66 (tr hs69 (tr hs71 (tr hs73 (tr hs76 (tr hs79 (tr hs180 (tr hs184 (tr hs186 (tr hs188 (tr hs190 (tr hs192 (tr hs197 (tr hs203 (tr hs206 (tr hs207 (tr hs282 (tr hs287 (tr hs290 (tr hs428 (tr hn459 (tr hn490 (tr hs495 hs501))))))))))))))))))))))))))))))))))))) (Nat.le_of_eq hzO502))
          replace hX78 := ho.ext hX78 (tr (tr hs79 (tr hs180 (tr hs184 (tr hs186 (tr hs188 (tr hs190 (tr hs192 (tr hs197 (tr hs203 (tr hs206 (tr hs207 (tr hs282 (tr hs287 (tr hs290 (tr hs428 (tr hn459 (tr hn490 (tr hs495 hs501)))))))))))))))))) (Nat.le_of_eq hzO502))
          replace hX431 := ho.ext hX431 (tr (tr hn459 (tr hn490 (tr hs495 hs501))) (Nat.le_of_eq hzO502))
          replace hX462 := ho.ext hX462 (tr (tr hn490 (tr hs495 hs501)) (Nat.le_of_eq hzO502))
          replace hX493 := ho.ext hX493 (tr (tr hs495 hs501) (Nat.le_of_eq hzO502))
          replace hR498 := ho.ints (fun ad e => Nat.ne_of_lt (Nat.lt_of_lt_of_le (hfr499 ad e).2 (Nat.le_of_eq hzO502))) hR498
          have hs507 : X503.heap.size ≤ X506.heap.size := Nat.le_of_eq ho.size.symm
          clear ho hk bO502_0
          have bO502_0 := hv0; clear hv0
          refine ⟨⟨(hX78.cell ceD), (hX78.cell ceJ)⟩, ?_⟩
          refine wk 14 (.int .i64 (orE (vD && vJ) 50 : Int)) hR (⟨(hX78.cell ceD), (hX78.cell ceJ)⟩) ?_
          refine wd_end hL hR hK (by kernel_rfl) ?_
          exact qw_leaf hJ [13, 15, 17, 18, 27, 43, 44, 45, 46, 47, 48, 49] (ws' := [(13, .pointer (some ⟨O13, 0, none⟩)), (15, .bool true), (17, .slice (some ⟨O64, 0, none⟩) 4 4), (18, .slice (some ⟨O74, 0, none⟩) 4 4), (27, .int .i64 (((ib : Nat) : Int) : Int)), (43, .int .i64 (((lb : Nat) : Int) : Int)), (44, .pointer (some ⟨O440, 0, none⟩)), (45, .int .i64 (orE (vD && vJ) 50 : Int)), (46, .pointer (some ⟨O471, 0, none⟩)), (47, .int .i64 (orE (vD && vJ) 50 : Int)), (48, .pointer (some ⟨O502, 0, none⟩)), (49, .int .i64 (orE (vD && vJ) 50 : Int))]) (by kernel_rfl) ⟨ra496, rk497, O502, rfl, hE, hX78, hX431, hX462, hX493, hR498, bO502_0, (tr hs495 (tr hs501 (tr hs504 hs507))), (tr (tr hs495 hs501) (Nat.le_of_eq hzO502))⟩
         ·
          refine sn_new (us := #[.slice none 0 0]) (t := 25) (by kernel_rfl) ?_
          intro O508 X509 hO hOs hb hbx
          have hzO508 := hO; have hyO508 := hOs; clear hO hOs
          have bO508_0 : BoxAt X509 O508 0 (.slice none 0 0) := hbx 0 _ rfl
          clear hbx
          replace hE := hE.trans hb
          replace hX78 := hX78.trans hb
          replace hX431 := hX431.trans hb
          replace hX462 := hX462.trans hb
          replace hX493 := hX493.trans hb
          have hs510 := hb.size
          clear hb
          have lt511 := bO508_0.lt
          refine ⟨⟨(hX78.cell ceD), (hX78.cell ceJ)⟩, ?_⟩
          refine wd_step 8 hR rfl (by kernel_rfl) (by kernel_rfl) (by kernel_rfl) (sn_call (f := 39) (args := #[.agg #[.slice aD nD cD], .agg #[.slice aJ nJ cJ]]) (by kernel_rfl) ((Meet_c _ _ _ aaD hX78 aaJ hX78).mono ?_))
          rintro e w516 ⟨ra512, rk513, rfl, hR514, hb, hfr515⟩
          replace hE := hE.trans hb
          replace hX78 := hX78.trans hb
          replace hX431 := hX431.trans hb
          replace hX462 := hX462.trans hb
          replace hX493 := hX493.trans hb
          replace bO508_0 := Bx hb bO508_0
          have hs517 := hb.size
          clear hb
          refine ⟨_, rfl, ⟨(hX78.cell ceD), (hX78.cell ceJ)⟩, ?_⟩
          have hs9 := And.intro (hX78.cell ceD) (hX78.cell ceJ)
          refine wk 9 (.tuple #[.agg #[.slice ra512 ((orL (vD && vJ) (Globe.meetL lD lJ)).length) rk513], .int .i64 (orE (vD && vJ) 50 : Int)]) hR hs9 ?_
          refine wl 10 (.agg #[.slice ra512 ((orL (vD && vJ) (Globe.meetL lD lJ)).length) rk513]) hR hs9 rfl (fun w _ => by kernel_rfl) ?_
          refine wk 11 (.int .i64 (orE (vD && vJ) 50 : Int)) hR hs9 ?_
          refine wd_step 13 hR rfl (by kernel_rfl) (by kernel_rfl) (by kernel_rfl) (sn_set (O := O508) (j := 0) (v := .slice ra512 ((orL (vD && vJ) (Globe.meetL lD lJ)).length) rk513) (ex_store (p := .pointer (some ⟨O508, 0, none⟩)) (v := .agg #[.slice ra512 ((orL (vD && vJ) (Globe.meetL lD lJ)).length) rk513]) rfl (by kernel_rfl) (by kernel_rfl) (st25 bO508_0.1 bO508_0.2)) bO508_0 ?_)
          intro X518 ho hv0 hk
          replace hE := ho.ext hE (tr (tr hs3 (tr hs7 (tr hs11 (tr hs15 (tr hs18 (tr hs26 (tr hs31 (tr hs34 (tr hs36 (tr hs39 (tr hs41 (tr hs49 (tr hs59 (tr hs63 (tr hs66 (tr hs69 (tr hs71 (tr hs73 (tr hs76 (tr hs79 (tr hs180 (tr hs184 (tr hs186 (tr hs188 (tr hs190 (tr hs192 (tr hs197 (tr hs203 (tr hs206 (tr hs207 (tr hs282 (tr hs287 (tr hs290 (tr hs428 (tr hn459 (tr hn490 hs495)))))))))))))))))))))))))))))))))))) (Nat.le_of_eq hzO508))
          replace hX78 := ho.ext hX78 (tr (tr hs79 (tr hs180 (tr hs184 (tr hs186 (tr hs188 (tr hs190 (tr hs192 (tr hs197 (tr hs203 (tr hs206 (tr hs207 (tr hs282 (tr hs287 (tr hs290 (tr hs428 (tr hn459 (tr hn490 hs495))))))))))))))))) (Nat.le_of_eq hzO508))
          replace hX431 := ho.ext hX431 (tr (tr hn459 (tr hn490 hs495)) (Nat.le_of_eq hzO508))
          replace hX462 := ho.ext hX462 (tr (tr hn490 hs495) (Nat.le_of_eq hzO508))
          replace hX493 := ho.ext hX493 (tr hs495 (Nat.le_of_eq hzO508))
          replace hR514 := ho.ints (fun ad e => Nat.ne_of_gt (Nat.lt_of_lt_of_le lt511 (tr (Nat.le_refl _) (hfr515 ad e).1))) hR514
          have hs519 : w516.heap.size ≤ X518.heap.size := Nat.le_of_eq ho.size.symm
          clear ho hk bO508_0
          have bO508_0 := hv0; clear hv0
          refine ⟨⟨(hX78.cell ceD), (hX78.cell ceJ)⟩, ?_⟩
          refine wk 14 (.int .i64 (orE (vD && vJ) 50 : Int)) hR (⟨(hX78.cell ceD), (hX78.cell ceJ)⟩) ?_
          refine wd_end hL hR hK (by kernel_rfl) ?_
          exact qw_leaf hJ [13, 15, 17, 18, 27, 43, 44, 45, 46, 47, 48, 49] (ws' := [(13, .pointer (some ⟨O13, 0, none⟩)), (15, .bool true), (17, .slice (some ⟨O64, 0, none⟩) 4 4), (18, .slice (some ⟨O74, 0, none⟩) 4 4), (27, .int .i64 (((ib : Nat) : Int) : Int)), (43, .int .i64 (((lb : Nat) : Int) : Int)), (44, .pointer (some ⟨O440, 0, none⟩)), (45, .int .i64 (orE (vD && vJ) 50 : Int)), (46, .pointer (some ⟨O471, 0, none⟩)), (47, .int .i64 (orE (vD && vJ) 50 : Int)), (48, .pointer (some ⟨O508, 0, none⟩)), (49, .int .i64 (orE (vD && vJ) 50 : Int))]) (by kernel_rfl) ⟨ra512, rk513, O508, rfl, hE, hX78, hX431, hX462, hX493, hR514, bO508_0, (tr hs495 (tr hs510 (tr hs517 hs519))), (tr hs495 (Nat.le_of_eq hzO508))⟩
        ·
         clear hE hX78 hX431 hX462 hX493
         rintro L ws Y520 ⟨ra496, rk497, O502, rfl, hE, hX78, hX431, hX462, hX493, hR498, bO502_0, hn521, hn522⟩
         have lt523 := bO502_0.lt
         refine qw_then ?_
         refine cw_seq ?_
         have hX524 : Ext Y520 Y520 := Ext.refl _
         refine cw_join (fun ws' Y => ∃ ra527 : Option Addr, ∃ rk528 : Nat, ∃ O533 : Nat, ws' = [(13, .pointer (some ⟨O13, 0, none⟩)), (15, .bool true), (17, .slice (some ⟨O64, 0, none⟩) 4 4), (18, .slice (some ⟨O74, 0, none⟩) 4 4), (27, .int .i64 (((ib : Nat) : Int) : Int)), (43, .int .i64 (((lb : Nat) : Int) : Int)), (44, .pointer (some ⟨O440, 0, none⟩)), (45, .int .i64 (orE (vD && vJ) 50 : Int)), (46, .pointer (some ⟨O471, 0, none⟩)), (47, .int .i64 (orE (vD && vJ) 50 : Int)), (48, .pointer (some ⟨O502, 0, none⟩)), (49, .int .i64 (orE (vD && vJ) 50 : Int)), (50, .pointer (some ⟨O533, 0, none⟩)), (51, .int .i64 (orE (vD && vJ) 50 : Int))] ∧ Ext w Y ∧ Ext X75 Y ∧ Ext w429 Y ∧ Ext Y458 Y ∧ Ext Y489 Y ∧ Ext Y520 Y ∧ IntsAt Y ra527 ((orL (vD && vJ) (Globe.meetL lD lJ))) ∧ BoxAt Y O533 0 (.slice ra527 ((orL (vD && vJ) (Globe.meetL lD lJ)).length) rk528) ∧ Y520.heap.size ≤ Y.heap.size ∧ Y520.heap.size ≤ O533) (fun hJ => ?_) ?_
         ·
          refine cw_draw [(some 414, [17], []), (some 415, [27], []), (some 416, [414, 415], [0, 1]), (some 417, [416], [2]), (some 418, [17], []), (some 419, [43], []), (some 420, [418, 419], [4, 5]), (some 421, [420], [6]), (some 422, [417, 421], [3, 7]), (some 413, [422], [8]), (some 423, [413], [9]), (some 424, [413], [9]), (some 50, [], []), (none, [50, 423], [12, 10, 8, 0, 1, 2, 3, 4, 5, 6, 7, 8, 9, 10, 12]), (some 51, [424], [11, 13, 0, 1, 2, 3, 4, 5, 6, 7, 8, 9, 10, 11, 12, 13])] (fun w' => w'.cell? ⟨O64, ib, none⟩ = some (.slice aD nD cD) ∧ w'.cell? ⟨O64, lb, none⟩ = some (.slice aJ nJ cJ)) (by kernel_rfl) (by kernel_rfl) (by kernel_rfl) (by kernel_rfl) ((calm_then (calm_block (calm_then (calm_then (calm_block (calm_block (calm_then (calm_then (calm_block (calm_then calm_body))))))))))) (⟨(hX78.cell ceD), (hX78.cell ceJ)⟩) (fun ops Q X525 hb hL hR hK => ?_)
          replace hE := hE.trans hb
          replace hX78 := hX78.trans hb
          replace hX431 := hX431.trans hb
          replace hX462 := hX462.trans hb
          replace hX493 := hX493.trans hb
          replace hX524 := hX524.trans hb
          have hs526 := hb.size
          clear hb
          have hs9 := And.intro (hX78.cell ceD) (hX78.cell ceJ)
          refine wk 0 (.slice (some ⟨O64, 0, none⟩) 4 4) hR hs9 ?_
          refine wk 1 (.int .i64 (((ib : Nat) : Int) : Int)) hR hs9 ?_
          refine wl 2 (.pointer (some ⟨O64, ib, none⟩)) hR hs9 rfl (fun w _ => ex_index (p := .slice (some ⟨O64, 0, none⟩) 4 4) (i := .int .i64 ((ib : Nat) : Int)) rfl (by kernel_rfl) (by kernel_rfl) (ix33z (k := ib) (by omega))) ?_
          refine wl 3 (.agg #[.slice aD nD cD]) hR hs9 rfl (fun w hS => ex_load rfl (by kernel_rfl) (ld25 (hS.1))) ?_
          refine wk 4 (.slice (some ⟨O64, 0, none⟩) 4 4) hR hs9 ?_
          refine wk 5 (.int .i64 (((lb : Nat) : Int) : Int)) hR hs9 ?_
          refine wl 6 (.pointer (some ⟨O64, lb, none⟩)) hR hs9 rfl (fun w _ => ex_index (p := .slice (some ⟨O64, 0, none⟩) 4 4) (i := .int .i64 ((lb : Nat) : Int)) rfl (by kernel_rfl) (by kernel_rfl) (ix33z (k := lb) (by omega))) ?_
          refine wl 7 (.agg #[.slice aJ nJ cJ]) hR hs9 rfl (fun w hS => ex_load rfl (by kernel_rfl) (ld25 (hS.2))) ?_
          refine wd_two 8 12 hR rfl rfl (by kernel_rfl) (by kernel_rfl) (by kernel_rfl) (by kernel_rfl) ?_ ?_
          ·
           refine sn_call (f := 40) (args := #[.agg #[.slice aD nD cD], .agg #[.slice aJ nJ cJ]]) (by kernel_rfl) ((rMeet_c _ _ _ aaD hX78 aaJ hX78).mono ?_)
           rintro e w531 ⟨ra527, rk528, rfl, hR529, hb, hfr530⟩
           replace hE := hE.trans hb
           replace hX78 := hX78.trans hb
           replace hX431 := hX431.trans hb
           replace hX462 := hX462.trans hb
           replace hX493 := hX493.trans hb
           replace hX524 := hX524.trans hb
           have hs532 := hb.size
           clear hb
           refine ⟨_, rfl, ⟨(hX78.cell ceD), (hX78.cell ceJ)⟩, ?_⟩
           have hs9 := And.intro (hX78.cell ceD) (hX78.cell ceJ)
           refine wk 9 (.tuple #[.agg #[.slice ra527 ((orL (vD && vJ) (Globe.meetL lD lJ)).length) rk528], .int .i64 (orE (vD && vJ) 50 : Int)]) hR hs9 ?_
           refine wl 10 (.agg #[.slice ra527 ((orL (vD && vJ) (Globe.meetL lD lJ)).length) rk528]) hR hs9 rfl (fun w _ => by kernel_rfl) ?_
           refine wk 11 (.int .i64 (orE (vD && vJ) 50 : Int)) hR hs9 ?_
           refine wd_step 12 hR rfl (by kernel_rfl) (by kernel_rfl) (by kernel_rfl) (sn_new (us := #[.slice none 0 0]) (t := 25) (by kernel_rfl) ?_)
           intro O533 X534 hO hOs hb hbx
           have hzO533 := hO; have hyO533 := hOs; clear hO hOs
           have bO533_0 : BoxAt X534 O533 0 (.slice none 0 0) := hbx 0 _ rfl
           clear hbx
           replace hE := hE.trans hb
           replace hX78 := hX78.trans hb
           replace hX431 := hX431.trans hb
           replace hX462 := hX462.trans hb
           replace hX493 := hX493.trans hb
           replace hX524 := hX524.trans hb
           replace hR529 := hR529.ext hb
           have hs535 := hb.size
           clear hb
           have lt536 := bO533_0.lt
           refine ⟨⟨(hX78.cell ceD), (hX78.cell ceJ)⟩, ?_⟩
           refine wd_step 13 hR rfl (by kernel_rfl) (by kernel_rfl) (by kernel_rfl) (sn_set (O := O533) (j := 0) (v := .slice ra527 ((orL (vD && vJ) (Globe.meetL lD lJ)).length) rk528) (ex_store (p := .pointer (some ⟨O533, 0, none⟩)) (v := .agg #[.slice ra527 ((orL (vD && vJ) (Globe.meetL lD lJ)).length) rk528]) rfl (by kernel_rfl) (by kernel_rfl) (st25 bO533_0.1 bO533_0.2)) bO533_0 ?_)
           intro X537 ho hv0 hk
           replace hE := ho.ext hE (tr (tr hs3 (tr hs7 (tr hs11 (tr hs15 (tr hs18 (tr hs26 (tr hs31 (tr hs34 (tr hs36 (tr hs39 (tr hs41 (tr hs49 (tr hs59 (tr hs63 (tr hs66 (tr hs69 (tr hs71 (tr hs73 (tr hs76 (tr hs79 (tr hs180 (tr hs184 (tr hs186 (tr hs188 (tr hs190 (tr hs192 (tr hs197 (tr hs203 (tr hs206 (tr hs207 (tr hs282 (tr hs287 (tr hs290 (tr hs428 (tr hn459 (tr hn490 (tr hn521 (tr hs526 hs532)))))))))))))))))))))))))))))))))))))) (Nat.le_of_eq hzO533))
           replace hX78 := ho.ext hX78 (tr (tr hs79 (tr hs180 (tr hs184 (tr hs186 (tr hs188 (tr hs190 (tr hs192 (tr hs197 (tr hs203 (tr hs206 (tr hs207 (tr hs282 (tr hs287 (tr hs290 (tr hs428 (tr hn459 (tr hn490 (tr hn521 (tr hs526 hs532))))))))))))))))))) (Nat.le_of_eq hzO533))
           replace hX431 := ho.ext hX431 (tr (tr hn459 (tr hn490 (tr hn521 (tr hs526 hs532)))) (Nat.le_of_eq hzO533))
           replace hX462 := ho.ext hX462 (tr (tr hn490 (tr hn521 (tr hs526 hs532))) (Nat.le_of_eq hzO533))
           replace hX493 := ho.ext hX493 (tr (tr hn521 (tr hs526 hs532)) (Nat.le_of_eq hzO533))
           replace hX524 := ho.ext hX524 (tr (tr hs526 hs532) (Nat.le_of_eq hzO533))
           replace hR529 := ho.ints (fun ad e => Nat.ne_of_lt (Nat.lt_of_lt_of_le (hfr530 ad e).2 (Nat.le_of_eq hzO533))) hR529
           have hs538 : X534.heap.size ≤ X537.heap.size := Nat.le_of_eq ho.size.symm
           clear ho hk bO533_0
           have bO533_0 := hv0; clear hv0
           refine ⟨⟨(hX78.cell ceD), (hX78.cell ceJ)⟩, ?_⟩
           refine wk 14 (.int .i64 (orE (vD && vJ) 50 : Int)) hR (⟨(hX78.cell ceD), (hX78.cell ceJ)⟩) ?_
           refine wd_end hL hR hK (by kernel_rfl) ?_
           exact qw_leaf hJ [13, 15, 17, 18, 27, 43, 44, 45, 46, 47, 48, 49, 50, 51] (ws' := [(13, .pointer (some ⟨O13, 0, none⟩)), (15, .bool true), (17, .slice (some ⟨O64, 0, none⟩) 4 4), (18, .slice (some ⟨O74, 0, none⟩) 4 4), (27, .int .i64 (((ib : Nat) : Int) : Int)), (43, .int .i64 (((lb : Nat) : Int) : Int)), (44, .pointer (some ⟨O440, 0, none⟩)), (45, .int .i64 (orE (vD && vJ) 50 : Int)), (46, .pointer (some ⟨O471, 0, none⟩)), (47, .int .i64 (orE (vD && vJ) 50 : Int)), (48, .pointer (some ⟨O502, 0, none⟩)), (49, .int .i64 (orE (vD && vJ) 50 : Int)), (50, .pointer (some ⟨O533, 0, none⟩)), (51, .int .i64 (orE (vD && vJ) 50 : Int))]) (by kernel_rfl) ⟨ra527, rk528, O533, rfl, hE, hX78, hX431, hX462, hX493, hX524, hR529, bO533_0, (tr hs526 (tr hs532 (tr hs535 hs538))), (tr (tr hs526 hs532) (Nat.le_of_eq hzO533))⟩
          ·
           refine sn_new (us := #[.slice none 0 0]) (t := 25) (by kernel_rfl) ?_
           intro O539 X540 hO hOs hb hbx
           have hzO539 := hO; have hyO539 := hOs; clear hO hOs
           have bO539_0 : BoxAt X540 O539 0 (.slice none 0 0) := hbx 0 _ rfl
           clear hbx
           replace hE := hE.trans hb
           replace hX78 := hX78.trans hb
           replace hX431 := hX431.trans hb
           replace hX462 := hX462.trans hb
           replace hX493 := hX493.trans hb
           replace hX524 := hX524.trans hb
           have hs541 := hb.size
           clear hb
           have lt542 := bO539_0.lt
           refine ⟨⟨(hX78.cell ceD), (hX78.cell ceJ)⟩, ?_⟩
           refine wd_step 8 hR rfl (by kernel_rfl) (by kernel_rfl) (by kernel_rfl) (sn_call (f := 40) (args := #[.agg #[.slice aD nD cD], .agg #[.slice aJ nJ cJ]]) (by kernel_rfl) ((rMeet_c _ _ _ aaD hX78 aaJ hX78).mono ?_))
           rintro e w547 ⟨ra543, rk544, rfl, hR545, hb, hfr546⟩
           replace hE := hE.trans hb
           replace hX78 := hX78.trans hb
           replace hX431 := hX431.trans hb
           replace hX462 := hX462.trans hb
           replace hX493 := hX493.trans hb
           replace hX524 := hX524.trans hb
           replace bO539_0 := Bx hb bO539_0
           have hs548 := hb.size
           clear hb
           refine ⟨_, rfl, ⟨(hX78.cell ceD), (hX78.cell ceJ)⟩, ?_⟩
           have hs9 := And.intro (hX78.cell ceD) (hX78.cell ceJ)
           refine wk 9 (.tuple #[.agg #[.slice ra543 ((orL (vD && vJ) (Globe.meetL lD lJ)).length) rk544], .int .i64 (orE (vD && vJ) 50 : Int)]) hR hs9 ?_
           refine wl 10 (.agg #[.slice ra543 ((orL (vD && vJ) (Globe.meetL lD lJ)).length) rk544]) hR hs9 rfl (fun w _ => by kernel_rfl) ?_
           refine wk 11 (.int .i64 (orE (vD && vJ) 50 : Int)) hR hs9 ?_
           refine wd_step 13 hR rfl (by kernel_rfl) (by kernel_rfl) (by kernel_rfl) (sn_set (O := O539) (j := 0) (v := .slice ra543 ((orL (vD && vJ) (Globe.meetL lD lJ)).length) rk544) (ex_store (p := .pointer (some ⟨O539, 0, none⟩)) (v := .agg #[.slice ra543 ((orL (vD && vJ) (Globe.meetL lD lJ)).length) rk544]) rfl (by kernel_rfl) (by kernel_rfl) (st25 bO539_0.1 bO539_0.2)) bO539_0 ?_)
           intro X549 ho hv0 hk
           replace hE := ho.ext hE (tr (tr hs3 (tr hs7 (tr hs11 (tr hs15 (tr hs18 (tr hs26 (tr hs31 (tr hs34 (tr hs36 (tr hs39 (tr hs41 (tr hs49 (tr hs59 (tr hs63 (tr hs66 (tr hs69 (tr hs71 (tr hs73 (tr hs76 (tr hs79 (tr hs180 (tr hs184 (tr hs186 (tr hs188 (tr hs190 (tr hs192 (tr hs197 (tr hs203 (tr hs206 (tr hs207 (tr hs282 (tr hs287 (tr hs290 (tr hs428 (tr hn459 (tr hn490 (tr hn521 hs526))))))))))))))))))))))))))))))))))))) (Nat.le_of_eq hzO539))
           replace hX78 := ho.ext hX78 (tr (tr hs79 (tr hs180 (tr hs184 (tr hs186 (tr hs188 (tr hs190 (tr hs192 (tr hs197 (tr hs203 (tr hs206 (tr hs207 (tr hs282 (tr hs287 (tr hs290 (tr hs428 (tr hn459 (tr hn490 (tr hn521 hs526)))))))))))))))))) (Nat.le_of_eq hzO539))
           replace hX431 := ho.ext hX431 (tr (tr hn459 (tr hn490 (tr hn521 hs526))) (Nat.le_of_eq hzO539))
           replace hX462 := ho.ext hX462 (tr (tr hn490 (tr hn521 hs526)) (Nat.le_of_eq hzO539))
           replace hX493 := ho.ext hX493 (tr (tr hn521 hs526) (Nat.le_of_eq hzO539))
           replace hX524 := ho.ext hX524 (tr hs526 (Nat.le_of_eq hzO539))
           replace hR545 := ho.ints (fun ad e => Nat.ne_of_gt (Nat.lt_of_lt_of_le lt542 (tr (Nat.le_refl _) (hfr546 ad e).1))) hR545
           have hs550 : w547.heap.size ≤ X549.heap.size := Nat.le_of_eq ho.size.symm
           clear ho hk bO539_0
           have bO539_0 := hv0; clear hv0
           refine ⟨⟨(hX78.cell ceD), (hX78.cell ceJ)⟩, ?_⟩
           refine wk 14 (.int .i64 (orE (vD && vJ) 50 : Int)) hR (⟨(hX78.cell ceD), (hX78.cell ceJ)⟩) ?_
           refine wd_end hL hR hK (by kernel_rfl) ?_
           exact qw_leaf hJ [13, 15, 17, 18, 27, 43, 44, 45, 46, 47, 48, 49, 50, 51] (ws' := [(13, .pointer (some ⟨O13, 0, none⟩)), (15, .bool true), (17, .slice (some ⟨O64, 0, none⟩) 4 4), (18, .slice (some ⟨O74, 0, none⟩) 4 4), (27, .int .i64 (((ib : Nat) : Int) : Int)), (43, .int .i64 (((lb : Nat) : Int) : Int)), (44, .pointer (some ⟨O440, 0, none⟩)), (45, .int .i64 (orE (vD && vJ) 50 : Int)), (46, .pointer (some ⟨O471, 0, none⟩)), (47, .int .i64 (orE (vD && vJ) 50 : Int)), (48, .pointer (some ⟨O502, 0, none⟩)), (49, .int .i64 (orE (vD && vJ) 50 : Int)), (50, .pointer (some ⟨O539, 0, none⟩)), (51, .int .i64 (orE (vD && vJ) 50 : Int))]) (by kernel_rfl) ⟨ra543, rk544, O539, rfl, hE, hX78, hX431, hX462, hX493, hX524, hR545, bO539_0, (tr hs526 (tr hs541 (tr hs548 hs550))), (tr hs526 (Nat.le_of_eq hzO539))⟩
         ·
          clear hE hX78 hX431 hX462 hX493 hX524
          rintro L ws Y551 ⟨ra527, rk528, O533, rfl, hE, hX78, hX431, hX462, hX493, hX524, hR529, bO533_0, hn552, hn553⟩
          have lt554 := bO533_0.lt
          refine qw_then ?_
          refine cw_seq ?_
          have hX555 : Ext Y551 Y551 := Ext.refl _
          refine cw_join (fun ws' Y => ∃ ra558 : Option Addr, ∃ rk559 : Nat, ∃ O564 : Nat, ws' = [(13, .pointer (some ⟨O13, 0, none⟩)), (15, .bool true), (17, .slice (some ⟨O64, 0, none⟩) 4 4), (18, .slice (some ⟨O74, 0, none⟩) 4 4), (27, .int .i64 (((ib : Nat) : Int) : Int)), (43, .int .i64 (((lb : Nat) : Int) : Int)), (44, .pointer (some ⟨O440, 0, none⟩)), (45, .int .i64 (orE (vD && vJ) 50 : Int)), (46, .pointer (some ⟨O471, 0, none⟩)), (47, .int .i64 (orE (vD && vJ) 50 : Int)), (48, .pointer (some ⟨O502, 0, none⟩)), (49, .int .i64 (orE (vD && vJ) 50 : Int)), (50, .pointer (some ⟨O533, 0, none⟩)), (51, .int .i64 (orE (vD && vJ) 50 : Int)), (52, .pointer (some ⟨O564, 0, none⟩)), (53, .int .i64 (orE (vD && vJ) 50 : Int))] ∧ Ext w Y ∧ Ext X75 Y ∧ Ext w429 Y ∧ Ext Y458 Y ∧ Ext Y489 Y ∧ Ext Y520 Y ∧ Ext Y551 Y ∧ IntsAt Y ra558 ((orL (vD && vJ) (Globe.lessL lD lJ))) ∧ BoxAt Y O564 0 (.slice ra558 ((orL (vD && vJ) (Globe.lessL lD lJ)).length) rk559) ∧ Y551.heap.size ≤ Y.heap.size ∧ Y551.heap.size ≤ O564) (fun hJ => ?_) ?_
          ·
           refine cw_draw [(some 426, [17], []), (some 427, [27], []), (some 428, [426, 427], [0, 1]), (some 429, [428], [2]), (some 430, [17], []), (some 431, [43], []), (some 432, [430, 431], [4, 5]), (some 433, [432], [6]), (some 434, [429, 433], [3, 7]), (some 425, [434], [8]), (some 435, [425], [9]), (some 436, [425], [9]), (some 52, [], []), (none, [52, 435], [12, 10, 8, 0, 1, 2, 3, 4, 5, 6, 7, 8, 9, 10, 12]), (some 53, [436], [11, 13, 0, 1, 2, 3, 4, 5, 6, 7, 8, 9, 10, 11, 12, 13])] (fun w' => w'.cell? ⟨O64, ib, none⟩ = some (.slice aD nD cD) ∧ w'.cell? ⟨O64, lb, none⟩ = some (.slice aJ nJ cJ)) (by kernel_rfl) (by kernel_rfl) (by kernel_rfl) (by kernel_rfl) ((calm_then (calm_block (calm_then (calm_then (calm_block (calm_block (calm_then (calm_then (calm_block (calm_then calm_body))))))))))) (⟨(hX78.cell ceD), (hX78.cell ceJ)⟩) (fun ops Q X556 hb hL hR hK => ?_)
           replace hE := hE.trans hb
           replace hX78 := hX78.trans hb
           replace hX431 := hX431.trans hb
           replace hX462 := hX462.trans hb
           replace hX493 := hX493.trans hb
           replace hX524 := hX524.trans hb
           replace hX555 := hX555.trans hb
           have hs557 := hb.size
           clear hb
           have hs9 := And.intro (hX78.cell ceD) (hX78.cell ceJ)
           refine wk 0 (.slice (some ⟨O64, 0, none⟩) 4 4) hR hs9 ?_
           refine wk 1 (.int .i64 (((ib : Nat) : Int) : Int)) hR hs9 ?_
           refine wl 2 (.pointer (some ⟨O64, ib, none⟩)) hR hs9 rfl (fun w _ => ex_index (p := .slice (some ⟨O64, 0, none⟩) 4 4) (i := .int .i64 ((ib : Nat) : Int)) rfl (by kernel_rfl) (by kernel_rfl) (ix33z (k := ib) (by omega))) ?_
           refine wl 3 (.agg #[.slice aD nD cD]) hR hs9 rfl (fun w hS => ex_load rfl (by kernel_rfl) (ld25 (hS.1))) ?_
           refine wk 4 (.slice (some ⟨O64, 0, none⟩) 4 4) hR hs9 ?_
           refine wk 5 (.int .i64 (((lb : Nat) : Int) : Int)) hR hs9 ?_
           refine wl 6 (.pointer (some ⟨O64, lb, none⟩)) hR hs9 rfl (fun w _ => ex_index (p := .slice (some ⟨O64, 0, none⟩) 4 4) (i := .int .i64 ((lb : Nat) : Int)) rfl (by kernel_rfl) (by kernel_rfl) (ix33z (k := lb) (by omega))) ?_
           refine wl 7 (.agg #[.slice aJ nJ cJ]) hR hs9 rfl (fun w hS => ex_load rfl (by kernel_rfl) (ld25 (hS.2))) ?_
           refine wd_two 8 12 hR rfl rfl (by kernel_rfl) (by kernel_rfl) (by kernel_rfl) (by kernel_rfl) ?_ ?_
           ·
            refine sn_call (f := 41) (args := #[.agg #[.slice aD nD cD], .agg #[.slice aJ nJ cJ]]) (by kernel_rfl) ((Less_c _ _ _ aaD hX78 aaJ hX78).mono ?_)
            rintro e w562 ⟨ra558, rk559, rfl, hR560, hb, hfr561⟩
            replace hE := hE.trans hb
            replace hX78 := hX78.trans hb
            replace hX431 := hX431.trans hb
            replace hX462 := hX462.trans hb
            replace hX493 := hX493.trans hb
            replace hX524 := hX524.trans hb
            replace hX555 := hX555.trans hb
            have hs563 := hb.size
            clear hb
            refine ⟨_, rfl, ⟨(hX78.cell ceD), (hX78.cell ceJ)⟩, ?_⟩
            have hs9 := And.intro (hX78.cell ceD) (hX78.cell ceJ)
            refine wk 9 (.tuple #[.agg #[.slice ra558 ((orL (vD && vJ) (Globe.lessL lD lJ)).length) rk559], .int .i64 (orE (vD && vJ) 50 : Int)]) hR hs9 ?_
            refine wl 10 (.agg #[.slice ra558 ((orL (vD && vJ) (Globe.lessL lD lJ)).length) rk559]) hR hs9 rfl (fun w _ => by kernel_rfl) ?_
            refine wk 11 (.int .i64 (orE (vD && vJ) 50 : Int)) hR hs9 ?_
            refine wd_step 12 hR rfl (by kernel_rfl) (by kernel_rfl) (by kernel_rfl) (sn_new (us := #[.slice none 0 0]) (t := 25) (by kernel_rfl) ?_)
            intro O564 X565 hO hOs hb hbx
            have hzO564 := hO; have hyO564 := hOs; clear hO hOs
            have bO564_0 : BoxAt X565 O564 0 (.slice none 0 0) := hbx 0 _ rfl
            clear hbx
            replace hE := hE.trans hb
            replace hX78 := hX78.trans hb
            replace hX431 := hX431.trans hb
            replace hX462 := hX462.trans hb
            replace hX493 := hX493.trans hb
            replace hX524 := hX524.trans hb
            replace hX555 := hX555.trans hb
            replace hR560 := hR560.ext hb
            have hs566 := hb.size
            clear hb
            have lt567 := bO564_0.lt
            refine ⟨⟨(hX78.cell ceD), (hX78.cell ceJ)⟩, ?_⟩
            refine wd_step 13 hR rfl (by kernel_rfl) (by kernel_rfl) (by kernel_rfl) (sn_set (O := O564) (j := 0) (v := .slice ra558 ((orL (vD && vJ) (Globe.lessL lD lJ)).length) rk559) (ex_store (p := .pointer (some ⟨O564, 0, none⟩)) (v := .agg #[.slice ra558 ((orL (vD && vJ) (Globe.lessL lD lJ)).length) rk559]) rfl (by kernel_rfl) (by kernel_rfl) (st25 bO564_0.1 bO564_0.2)) bO564_0 ?_)
            intro X568 ho hv0 hk
            replace hE := ho.ext hE (tr (tr hs3 (tr hs7 (tr hs11 (tr hs15 (tr hs18 (tr hs26 (tr hs31 (tr hs34 (tr hs36 (tr hs39 (tr hs41 (tr hs49 (tr hs59 (tr hs63 (tr hs66 (tr hs69 (tr hs71 (tr hs73 (tr hs76 (tr hs79 (tr hs180 (tr hs184 (tr hs186 (tr hs188 (tr hs190 (tr hs192 (tr hs197 (tr hs203 (tr hs206 (tr hs207 (tr hs282 (tr hs287 (tr hs290 (tr hs428 (tr hn459 (tr hn490 (tr hn521 (tr hn552 (tr hs557 hs563))))))))))))))))))))))))))))))))))))))) (Nat.le_of_eq hzO564))
            replace hX78 := ho.ext hX78 (tr (tr hs79 (tr hs180 (tr hs184 (tr hs186 (tr hs188 (tr hs190 (tr hs192 (tr hs197 (tr hs203 (tr hs206 (tr hs207 (tr hs282 (tr hs287 (tr hs290 (tr hs428 (tr hn459 (tr hn490 (tr hn521 (tr hn552 (tr hs557 hs563)))))))))))))))))))) (Nat.le_of_eq hzO564))
            replace hX431 := ho.ext hX431 (tr (tr hn459 (tr hn490 (tr hn521 (tr hn552 (tr hs557 hs563))))) (Nat.le_of_eq hzO564))
            replace hX462 := ho.ext hX462 (tr (tr hn490 (tr hn521 (tr hn552 (tr hs557 hs563)))) (Nat.le_of_eq hzO564))
            replace hX493 := ho.ext hX493 (tr (tr hn521 (tr hn552 (tr hs557 hs563))) (Nat.le_of_eq hzO564))
            replace hX524 := ho.ext hX524 (tr (tr hn552 (tr hs557 hs563)) (Nat.le_of_eq hzO564))
            replace hX555 := ho.ext hX555 (tr (tr hs557 hs563) (Nat.le_of_eq hzO564))
            replace hR560 := ho.ints (fun ad e => Nat.ne_of_lt (Nat.lt_of_lt_of_le (hfr561 ad e).2 (Nat.le_of_eq hzO564))) hR560
            have hs569 : X565.heap.size ≤ X568.heap.size := Nat.le_of_eq ho.size.symm
            clear ho hk bO564_0
            have bO564_0 := hv0; clear hv0
            refine ⟨⟨(hX78.cell ceD), (hX78.cell ceJ)⟩, ?_⟩
            refine wk 14 (.int .i64 (orE (vD && vJ) 50 : Int)) hR (⟨(hX78.cell ceD), (hX78.cell ceJ)⟩) ?_
            refine wd_end hL hR hK (by kernel_rfl) ?_
            exact qw_leaf hJ [13, 15, 17, 18, 27, 43, 44, 45, 46, 47, 48, 49, 50, 51, 52, 53] (ws' := [(13, .pointer (some ⟨O13, 0, none⟩)), (15, .bool true), (17, .slice (some ⟨O64, 0, none⟩) 4 4), (18, .slice (some ⟨O74, 0, none⟩) 4 4), (27, .int .i64 (((ib : Nat) : Int) : Int)), (43, .int .i64 (((lb : Nat) : Int) : Int)), (44, .pointer (some ⟨O440, 0, none⟩)), (45, .int .i64 (orE (vD && vJ) 50 : Int)), (46, .pointer (some ⟨O471, 0, none⟩)), (47, .int .i64 (orE (vD && vJ) 50 : Int)), (48, .pointer (some ⟨O502, 0, none⟩)), (49, .int .i64 (orE (vD && vJ) 50 : Int)), (50, .pointer (some ⟨O533, 0, none⟩)), (51, .int .i64 (orE (vD && vJ) 50 : Int)), (52, .pointer (some ⟨O564, 0, none⟩)), (53, .int .i64 (orE (vD && vJ) 50 : Int))]) (by kernel_rfl) ⟨ra558, rk559, O564, rfl, hE, hX78, hX431, hX462, hX493, hX524, hX555, hR560, bO564_0, (tr hs557 (tr hs563 (tr hs566 hs569))), (tr (tr hs557 hs563) (Nat.le_of_eq hzO564))⟩
           ·
            refine sn_new (us := #[.slice none 0 0]) (t := 25) (by kernel_rfl) ?_
            intro O570 X571 hO hOs hb hbx
            have hzO570 := hO; have hyO570 := hOs; clear hO hOs
            have bO570_0 : BoxAt X571 O570 0 (.slice none 0 0) := hbx 0 _ rfl
            clear hbx
            replace hE := hE.trans hb
            replace hX78 := hX78.trans hb
            replace hX431 := hX431.trans hb
            replace hX462 := hX462.trans hb
            replace hX493 := hX493.trans hb
            replace hX524 := hX524.trans hb
            replace hX555 := hX555.trans hb
            have hs572 := hb.size
            clear hb
            have lt573 := bO570_0.lt
            refine ⟨⟨(hX78.cell ceD), (hX78.cell ceJ)⟩, ?_⟩
            refine wd_step 8 hR rfl (by kernel_rfl) (by kernel_rfl) (by kernel_rfl) (sn_call (f := 41) (args := #[.agg #[.slice aD nD cD], .agg #[.slice aJ nJ cJ]]) (by kernel_rfl) ((Less_c _ _ _ aaD hX78 aaJ hX78).mono ?_))
            rintro e w578 ⟨ra574, rk575, rfl, hR576, hb, hfr577⟩
            replace hE := hE.trans hb
            replace hX78 := hX78.trans hb
            replace hX431 := hX431.trans hb
            replace hX462 := hX462.trans hb
            replace hX493 := hX493.trans hb
            replace hX524 := hX524.trans hb
            replace hX555 := hX555.trans hb
            replace bO570_0 := Bx hb bO570_0
            have hs579 := hb.size
            clear hb
            refine ⟨_, rfl, ⟨(hX78.cell ceD), (hX78.cell ceJ)⟩, ?_⟩
            have hs9 := And.intro (hX78.cell ceD) (hX78.cell ceJ)
            refine wk 9 (.tuple #[.agg #[.slice ra574 ((orL (vD && vJ) (Globe.lessL lD lJ)).length) rk575], .int .i64 (orE (vD && vJ) 50 : Int)]) hR hs9 ?_
            refine wl 10 (.agg #[.slice ra574 ((orL (vD && vJ) (Globe.lessL lD lJ)).length) rk575]) hR hs9 rfl (fun w _ => by kernel_rfl) ?_
            refine wk 11 (.int .i64 (orE (vD && vJ) 50 : Int)) hR hs9 ?_
            refine wd_step 13 hR rfl (by kernel_rfl) (by kernel_rfl) (by kernel_rfl) (sn_set (O := O570) (j := 0) (v := .slice ra574 ((orL (vD && vJ) (Globe.lessL lD lJ)).length) rk575) (ex_store (p := .pointer (some ⟨O570, 0, none⟩)) (v := .agg #[.slice ra574 ((orL (vD && vJ) (Globe.lessL lD lJ)).length) rk575]) rfl (by kernel_rfl) (by kernel_rfl) (st25 bO570_0.1 bO570_0.2)) bO570_0 ?_)
            intro X580 ho hv0 hk
            replace hE := ho.ext hE (tr (tr hs3 (tr hs7 (tr hs11 (tr hs15 (tr hs18 (tr hs26 (tr hs31 (tr hs34 (tr hs36 (tr hs39 (tr hs41 (tr hs49 (tr hs59 (tr hs63 (tr hs66 (tr hs69 (tr hs71 (tr hs73 (tr hs76 (tr hs79 (tr hs180 (tr hs184 (tr hs186 (tr hs188 (tr hs190 (tr hs192 (tr hs197 (tr hs203 (tr hs206 (tr hs207 (tr hs282 (tr hs287 (tr hs290 (tr hs428 (tr hn459 (tr hn490 (tr hn521 (tr hn552 hs557)))))))))))))))))))))))))))))))))))))) (Nat.le_of_eq hzO570))
            replace hX78 := ho.ext hX78 (tr (tr hs79 (tr hs180 (tr hs184 (tr hs186 (tr hs188 (tr hs190 (tr hs192 (tr hs197 (tr hs203 (tr hs206 (tr hs207 (tr hs282 (tr hs287 (tr hs290 (tr hs428 (tr hn459 (tr hn490 (tr hn521 (tr hn552 hs557))))))))))))))))))) (Nat.le_of_eq hzO570))
            replace hX431 := ho.ext hX431 (tr (tr hn459 (tr hn490 (tr hn521 (tr hn552 hs557)))) (Nat.le_of_eq hzO570))
            replace hX462 := ho.ext hX462 (tr (tr hn490 (tr hn521 (tr hn552 hs557))) (Nat.le_of_eq hzO570))
            replace hX493 := ho.ext hX493 (tr (tr hn521 (tr hn552 hs557)) (Nat.le_of_eq hzO570))
            replace hX524 := ho.ext hX524 (tr (tr hn552 hs557) (Nat.le_of_eq hzO570))
            replace hX555 := ho.ext hX555 (tr hs557 (Nat.le_of_eq hzO570))
            replace hR576 := ho.ints (fun ad e => Nat.ne_of_gt (Nat.lt_of_lt_of_le lt573 (tr (Nat.le_refl _) (hfr577 ad e).1))) hR576
            have hs581 : w578.heap.size ≤ X580.heap.size := Nat.le_of_eq ho.size.symm
            clear ho hk bO570_0
            have bO570_0 := hv0; clear hv0
            refine ⟨⟨(hX78.cell ceD), (hX78.cell ceJ)⟩, ?_⟩
            refine wk 14 (.int .i64 (orE (vD && vJ) 50 : Int)) hR (⟨(hX78.cell ceD), (hX78.cell ceJ)⟩) ?_
            refine wd_end hL hR hK (by kernel_rfl) ?_
            exact qw_leaf hJ [13, 15, 17, 18, 27, 43, 44, 45, 46, 47, 48, 49, 50, 51, 52, 53] (ws' := [(13, .pointer (some ⟨O13, 0, none⟩)), (15, .bool true), (17, .slice (some ⟨O64, 0, none⟩) 4 4), (18, .slice (some ⟨O74, 0, none⟩) 4 4), (27, .int .i64 (((ib : Nat) : Int) : Int)), (43, .int .i64 (((lb : Nat) : Int) : Int)), (44, .pointer (some ⟨O440, 0, none⟩)), (45, .int .i64 (orE (vD && vJ) 50 : Int)), (46, .pointer (some ⟨O471, 0, none⟩)), (47, .int .i64 (orE (vD && vJ) 50 : Int)), (48, .pointer (some ⟨O502, 0, none⟩)), (49, .int .i64 (orE (vD && vJ) 50 : Int)), (50, .pointer (some ⟨O533, 0, none⟩)), (51, .int .i64 (orE (vD && vJ) 50 : Int)), (52, .pointer (some ⟨O570, 0, none⟩)), (53, .int .i64 (orE (vD && vJ) 50 : Int))]) (by kernel_rfl) ⟨ra574, rk575, O570, rfl, hE, hX78, hX431, hX462, hX493, hX524, hX555, hR576, bO570_0, (tr hs557 (tr hs572 (tr hs579 hs581))), (tr hs557 (Nat.le_of_eq hzO570))⟩
          ·
           clear hE hX78 hX431 hX462 hX493 hX524 hX555
           rintro L ws Y582 ⟨ra558, rk559, O564, rfl, hE, hX78, hX431, hX462, hX493, hX524, hX555, hR560, bO564_0, hn583, hn584⟩
           have lt585 := bO564_0.lt
           refine qw_then ?_
           refine cw_clean [13, 15, 17, 18, 27, 43, 44, 45, 46, 47, 48, 49, 50, 51, 52, 53] (ws' := [(13, .pointer (some ⟨O13, 0, none⟩)), (15, .bool true), (17, .slice (some ⟨O64, 0, none⟩) 4 4), (18, .slice (some ⟨O74, 0, none⟩) 4 4), (27, .int .i64 (((ib : Nat) : Int) : Int)), (43, .int .i64 (((lb : Nat) : Int) : Int)), (44, .pointer (some ⟨O440, 0, none⟩)), (45, .int .i64 (orE (vD && vJ) 50 : Int)), (46, .pointer (some ⟨O471, 0, none⟩)), (47, .int .i64 (orE (vD && vJ) 50 : Int)), (48, .pointer (some ⟨O502, 0, none⟩)), (49, .int .i64 (orE (vD && vJ) 50 : Int)), (50, .pointer (some ⟨O533, 0, none⟩)), (51, .int .i64 (orE (vD && vJ) 50 : Int)), (52, .pointer (some ⟨O564, 0, none⟩)), (53, .int .i64 (orE (vD && vJ) 50 : Int))]) (by kernel_rfl) (fun L => ?_)
           refine cw_seq ?_
           have hX586 : Ext Y582 Y582 := Ext.refl _
           refine cw_join (fun ws' Y => ∃ ra589 : Option Addr, ∃ rk590 : Nat, ∃ O595 : Nat, ws' = [(13, .pointer (some ⟨O13, 0, none⟩)), (15, .bool true), (17, .slice (some ⟨O64, 0, none⟩) 4 4), (18, .slice (some ⟨O74, 0, none⟩) 4 4), (27, .int .i64 (((ib : Nat) : Int) : Int)), (43, .int .i64 (((lb : Nat) : Int) : Int)), (44, .pointer (some ⟨O440, 0, none⟩)), (45, .int .i64 (orE (vD && vJ) 50 : Int)), (46, .pointer (some ⟨O471, 0, none⟩)), (47, .int .i64 (orE (vD && vJ) 50 : Int)), (48, .pointer (some ⟨O502, 0, none⟩)), (49, .int .i64 (orE (vD && vJ) 50 : Int)), (50, .pointer (some ⟨O533, 0, none⟩)), (51, .int .i64 (orE (vD && vJ) 50 : Int)), (52, .pointer (some ⟨O564, 0, none⟩)), (53, .int .i64 (orE (vD && vJ) 50 : Int)), (54, .pointer (some ⟨O595, 0, none⟩)), (55, .int .i64 (orE (vD && vJ) 50 : Int))] ∧ Ext w Y ∧ Ext X75 Y ∧ Ext w429 Y ∧ Ext Y458 Y ∧ Ext Y489 Y ∧ Ext Y520 Y ∧ Ext Y551 Y ∧ Ext Y582 Y ∧ IntsAt Y ra589 ((orL (vD && vJ) (Globe.lessL lD lJ))) ∧ BoxAt Y O595 0 (.slice ra589 ((orL (vD && vJ) (Globe.lessL lD lJ)).length) rk590) ∧ Y582.heap.size ≤ Y.heap.size ∧ Y582.heap.size ≤ O595) (fun hJ => ?_) ?_
           ·
            refine cw_draw [(some 438, [17], []), (some 439, [27], []), (some 440, [438, 439], [0, 1]), (some 441, [440], [2]), (some 442, [17], []), (some 443, [43], []), (some 444, [442, 443], [4, 5]), (some 445, [444], [6]), (some 446, [441, 445], [3, 7]), (some 437, [446], [8]), (some 447, [437], [9]), (some 448, [437], [9]), (some 54, [], []), (none, [54, 447], [12, 10, 8, 0, 1, 2, 3, 4, 5, 6, 7, 8, 9, 10, 12]), (some 55, [448], [11, 13, 0, 1, 2, 3, 4, 5, 6, 7, 8, 9, 10, 11, 12, 13])] (fun w' => w'.cell? ⟨O64, ib, none⟩ = some (.slice aD nD cD) ∧ w'.cell? ⟨O64, lb, none⟩ = some (.slice aJ nJ cJ)) (by kernel_rfl) (by kernel_rfl) (by kernel_rfl) (by kernel_rfl) ((calm_then (calm_block (calm_then (calm_then (calm_block (calm_block (calm_then (calm_then (calm_block (calm_then calm_body))))))))))) (⟨(hX78.cell ceD), (hX78.cell ceJ)⟩) (fun ops Q X587 hb hL hR hK => ?_)
            replace hE := hE.trans hb
            replace hX78 := hX78.trans hb
            replace hX431 := hX431.trans hb
            replace hX462 := hX462.trans hb
            replace hX493 := hX493.trans hb
            replace hX524 := hX524.trans hb
            replace hX555 := hX555.trans hb
            replace hX586 := hX586.trans hb
            have hs588 := hb.size
            clear hb
            have hs9 := And.intro (hX78.cell ceD) (hX78.cell ceJ)
            refine wk 0 (.slice (some ⟨O64, 0, none⟩) 4 4) hR hs9 ?_
            refine wk 1 (.int .i64 (((ib : Nat) : Int) : Int)) hR hs9 ?_
            refine wl 2 (.pointer (some ⟨O64, ib, none⟩)) hR hs9 rfl (fun w _ => ex_index (p := .slice (some ⟨O64, 0, none⟩) 4 4) (i := .int .i64 ((ib : Nat) : Int)) rfl (by kernel_rfl) (by kernel_rfl) (ix33z (k := ib) (by omega))) ?_
            refine wl 3 (.agg #[.slice aD nD cD]) hR hs9 rfl (fun w hS => ex_load rfl (by kernel_rfl) (ld25 (hS.1))) ?_
            refine wk 4 (.slice (some ⟨O64, 0, none⟩) 4 4) hR hs9 ?_
            refine wk 5 (.int .i64 (((lb : Nat) : Int) : Int)) hR hs9 ?_
            refine wl 6 (.pointer (some ⟨O64, lb, none⟩)) hR hs9 rfl (fun w _ => ex_index (p := .slice (some ⟨O64, 0, none⟩) 4 4) (i := .int .i64 ((lb : Nat) : Int)) rfl (by kernel_rfl) (by kernel_rfl) (ix33z (k := lb) (by omega))) ?_
            refine wl 7 (.agg #[.slice aJ nJ cJ]) hR hs9 rfl (fun w hS => ex_load rfl (by kernel_rfl) (ld25 (hS.2))) ?_
            refine wd_two 8 12 hR rfl rfl (by kernel_rfl) (by kernel_rfl) (by kernel_rfl) (by kernel_rfl) ?_ ?_
            ·
             refine sn_call (f := 42) (args := #[.agg #[.slice aD nD cD], .agg #[.slice aJ nJ cJ]]) (by kernel_rfl) ((rLess_c _ _ _ aaD hX78 aaJ hX78).mono ?_)
             rintro e w593 ⟨ra589, rk590, rfl, hR591, hb, hfr592⟩
             replace hE := hE.trans hb
             replace hX78 := hX78.trans hb
             replace hX431 := hX431.trans hb
             replace hX462 := hX462.trans hb
             replace hX493 := hX493.trans hb
             replace hX524 := hX524.trans hb
             replace hX555 := hX555.trans hb
             replace hX586 := hX586.trans hb
             have hs594 := hb.size
             clear hb
             refine ⟨_, rfl, ⟨(hX78.cell ceD), (hX78.cell ceJ)⟩, ?_⟩
             have hs9 := And.intro (hX78.cell ceD) (hX78.cell ceJ)
             refine wk 9 (.tuple #[.agg #[.slice ra589 ((orL (vD && vJ) (Globe.lessL lD lJ)).length) rk590], .int .i64 (orE (vD && vJ) 50 : Int)]) hR hs9 ?_
             refine wl 10 (.agg #[.slice ra589 ((orL (vD && vJ) (Globe.lessL lD lJ)).length) rk590]) hR hs9 rfl (fun w _ => by kernel_rfl) ?_
             refine wk 11 (.int .i64 (orE (vD && vJ) 50 : Int)) hR hs9 ?_
             refine wd_step 12 hR rfl (by kernel_rfl) (by kernel_rfl) (by kernel_rfl) (sn_new (us := #[.slice none 0 0]) (t := 25) (by kernel_rfl) ?_)
             intro O595 X596 hO hOs hb hbx
             have hzO595 := hO; have hyO595 := hOs; clear hO hOs
             have bO595_0 : BoxAt X596 O595 0 (.slice none 0 0) := hbx 0 _ rfl
             clear hbx
             replace hE := hE.trans hb
             replace hX78 := hX78.trans hb
             replace hX431 := hX431.trans hb
             replace hX462 := hX462.trans hb
             replace hX493 := hX493.trans hb
             replace hX524 := hX524.trans hb
             replace hX555 := hX555.trans hb
             replace hX586 := hX586.trans hb
             replace hR591 := hR591.ext hb
             have hs597 := hb.size
             clear hb
             have lt598 := bO595_0.lt
             refine ⟨⟨(hX78.cell ceD), (hX78.cell ceJ)⟩, ?_⟩
             refine wd_step 13 hR rfl (by kernel_rfl) (by kernel_rfl) (by kernel_rfl) (sn_set (O := O595) (j := 0) (v := .slice ra589 ((orL (vD && vJ) (Globe.lessL lD lJ)).length) rk590) (ex_store (p := .pointer (some ⟨O595, 0, none⟩)) (v := .agg #[.slice ra589 ((orL (vD && vJ) (Globe.lessL lD lJ)).length) rk590]) rfl (by kernel_rfl) (by kernel_rfl) (st25 bO595_0.1 bO595_0.2)) bO595_0 ?_)
             intro X599 ho hv0 hk
             replace hE := ho.ext hE (tr (tr hs3 (tr hs7 (tr hs11 (tr hs15 (tr hs18 (tr hs26 (tr hs31 (tr hs34 (tr hs36 (tr hs39 (tr hs41 (tr hs49 (tr hs59 (tr hs63 (tr hs66 (tr hs69 (tr hs71 (tr hs73 (tr hs76 (tr hs79 (tr hs180 (tr hs184 (tr hs186 (tr hs188 (tr hs190 (tr hs192 (tr hs197 (tr hs203 (tr hs206 (tr hs207 (tr hs282 (tr hs287 (tr hs290 (tr hs428 (tr hn459 (tr hn490 (tr hn521 (tr hn552 (tr hn583 (tr hs588 hs594)))))))))))))))))))))))))))))))))))))))) (Nat.le_of_eq hzO595))
             replace hX78 := ho.ext hX78 (tr (tr hs79 (tr hs180 (tr hs184 (tr hs186 (tr hs188 (tr hs190 (tr hs192 (tr hs197 (tr hs203 (tr hs206 (tr hs207 (tr hs282 (tr hs287 (tr hs290 (tr hs428 (tr hn459 (tr hn490 (tr hn521 (tr hn552 (tr hn583 (tr hs588 hs594))))))))))))))))))))) (Nat.le_of_eq hzO595))
             replace hX431 := ho.ext hX431 (tr (tr hn459 (tr hn490 (tr hn521 (tr hn552 (tr hn583 (tr hs588 hs594)))))) (Nat.le_of_eq hzO595))
             replace hX462 := ho.ext hX462 (tr (tr hn490 (tr hn521 (tr hn552 (tr hn583 (tr hs588 hs594))))) (Nat.le_of_eq hzO595))
             replace hX493 := ho.ext hX493 (tr (tr hn521 (tr hn552 (tr hn583 (tr hs588 hs594)))) (Nat.le_of_eq hzO595))
             replace hX524 := ho.ext hX524 (tr (tr hn552 (tr hn583 (tr hs588 hs594))) (Nat.le_of_eq hzO595))
             replace hX555 := ho.ext hX555 (tr (tr hn583 (tr hs588 hs594)) (Nat.le_of_eq hzO595))
             replace hX586 := ho.ext hX586 (tr (tr hs588 hs594) (Nat.le_of_eq hzO595))
             replace hR591 := ho.ints (fun ad e => Nat.ne_of_lt (Nat.lt_of_lt_of_le (hfr592 ad e).2 (Nat.le_of_eq hzO595))) hR591
             have hs600 : X596.heap.size ≤ X599.heap.size := Nat.le_of_eq ho.size.symm
             clear ho hk bO595_0
             have bO595_0 := hv0; clear hv0
             refine ⟨⟨(hX78.cell ceD), (hX78.cell ceJ)⟩, ?_⟩
             refine wk 14 (.int .i64 (orE (vD && vJ) 50 : Int)) hR (⟨(hX78.cell ceD), (hX78.cell ceJ)⟩) ?_
             refine wd_end hL hR hK (by kernel_rfl) ?_
             exact qw_leaf hJ [13, 15, 17, 18, 27, 43, 44, 45, 46, 47, 48, 49, 50, 51, 52, 53, 54, 55] (ws' := [(13, .pointer (some ⟨O13, 0, none⟩)), (15, .bool true), (17, .slice (some ⟨O64, 0, none⟩) 4 4), (18, .slice (some ⟨O74, 0, none⟩) 4 4), (27, .int .i64 (((ib : Nat) : Int) : Int)), (43, .int .i64 (((lb : Nat) : Int) : Int)), (44, .pointer (some ⟨O440, 0, none⟩)), (45, .int .i64 (orE (vD && vJ) 50 : Int)), (46, .pointer (some ⟨O471, 0, none⟩)), (47, .int .i64 (orE (vD && vJ) 50 : Int)), (48, .pointer (some ⟨O502, 0, none⟩)), (49, .int .i64 (orE (vD && vJ) 50 : Int)), (50, .pointer (some ⟨O533, 0, none⟩)), (51, .int .i64 (orE (vD && vJ) 50 : Int)), (52, .pointer (some ⟨O564, 0, none⟩)), (53, .int .i64 (orE (vD && vJ) 50 : Int)), (54, .pointer (some ⟨O595, 0, none⟩)), (55, .int .i64 (orE (vD && vJ) 50 : Int))]) (by kernel_rfl) ⟨ra589, rk590, O595, rfl, hE, hX78, hX431, hX462, hX493, hX524, hX555, hX586, hR591, bO595_0, (tr hs588 (tr hs594 (tr hs597 hs600))), (tr (tr hs588 hs594) (Nat.le_of_eq hzO595))⟩
            ·
             refine sn_new (us := #[.slice none 0 0]) (t := 25) (by kernel_rfl) ?_
             intro O601 X602 hO hOs hb hbx
             have hzO601 := hO; have hyO601 := hOs; clear hO hOs
             have bO601_0 : BoxAt X602 O601 0 (.slice none 0 0) := hbx 0 _ rfl
             clear hbx
             replace hE := hE.trans hb
             replace hX78 := hX78.trans hb
             replace hX431 := hX431.trans hb
             replace hX462 := hX462.trans hb
             replace hX493 := hX493.trans hb
             replace hX524 := hX524.trans hb
             replace hX555 := hX555.trans hb
             replace hX586 := hX586.trans hb
             have hs603 := hb.size
             clear hb
             have lt604 := bO601_0.lt
             refine ⟨⟨(hX78.cell ceD), (hX78.cell ceJ)⟩, ?_⟩
             refine wd_step 8 hR rfl (by kernel_rfl) (by kernel_rfl) (by kernel_rfl) (sn_call (f := 42) (args := #[.agg #[.slice aD nD cD], .agg #[.slice aJ nJ cJ]]) (by kernel_rfl) ((rLess_c _ _ _ aaD hX78 aaJ hX78).mono ?_))
             rintro e w609 ⟨ra605, rk606, rfl, hR607, hb, hfr608⟩
             replace hE := hE.trans hb
             replace hX78 := hX78.trans hb
             replace hX431 := hX431.trans hb
             replace hX462 := hX462.trans hb
             replace hX493 := hX493.trans hb
             replace hX524 := hX524.trans hb
             replace hX555 := hX555.trans hb
             replace hX586 := hX586.trans hb
             replace bO601_0 := Bx hb bO601_0
             have hs610 := hb.size
             clear hb
             refine ⟨_, rfl, ⟨(hX78.cell ceD), (hX78.cell ceJ)⟩, ?_⟩
             have hs9 := And.intro (hX78.cell ceD) (hX78.cell ceJ)
             refine wk 9 (.tuple #[.agg #[.slice ra605 ((orL (vD && vJ) (Globe.lessL lD lJ)).length) rk606], .int .i64 (orE (vD && vJ) 50 : Int)]) hR hs9 ?_
             refine wl 10 (.agg #[.slice ra605 ((orL (vD && vJ) (Globe.lessL lD lJ)).length) rk606]) hR hs9 rfl (fun w _ => by kernel_rfl) ?_
             refine wk 11 (.int .i64 (orE (vD && vJ) 50 : Int)) hR hs9 ?_
             refine wd_step 13 hR rfl (by kernel_rfl) (by kernel_rfl) (by kernel_rfl) (sn_set (O := O601) (j := 0) (v := .slice ra605 ((orL (vD && vJ) (Globe.lessL lD lJ)).length) rk606) (ex_store (p := .pointer (some ⟨O601, 0, none⟩)) (v := .agg #[.slice ra605 ((orL (vD && vJ) (Globe.lessL lD lJ)).length) rk606]) rfl (by kernel_rfl) (by kernel_rfl) (st25 bO601_0.1 bO601_0.2)) bO601_0 ?_)
             intro X611 ho hv0 hk
             replace hE := ho.ext hE (tr (tr hs3 (tr hs7 (tr hs11 (tr hs15 (tr hs18 (tr hs26 (tr hs31 (tr hs34 (tr hs36 (tr hs39 (tr hs41 (tr hs49 (tr hs59 (tr hs63 (tr hs66 (tr hs69 (tr hs71 (tr hs73 (tr hs76 (tr hs79 (tr hs180 (tr hs184 (tr hs186 (tr hs188 (tr hs190 (tr hs192 (tr hs197 (tr hs203 (tr hs206 (tr hs207 (tr hs282 (tr hs287 (tr hs290 (tr hs428 (tr hn459 (tr hn490 (tr hn521 (tr hn552 (tr hn583 hs588))))))))))))))))))))))))))))))))))))))) (Nat.le_of_eq hzO601))
             replace hX78 := ho.ext hX78 (tr (tr hs79 (tr hs180 (tr hs184 (tr hs186 (tr hs188 (tr hs190 (tr hs192 (tr hs197 (tr hs203 (tr hs206 (tr hs207 (tr hs282 (tr hs287 (tr hs290 (tr hs428 (tr hn459 (tr hn490 (tr hn521 (tr hn552 (tr hn583 hs588)))))))))))))))))))) (Nat.le_of_eq hzO601))
             replace hX431 := ho.ext hX431 (tr (tr hn459 (tr hn490 (tr hn521 (tr hn552 (tr hn583 hs588))))) (Nat.le_of_eq hzO601))
             replace hX462 := ho.ext hX462 (tr (tr hn490 (tr hn521 (tr hn552 (tr hn583 hs588)))) (Nat.le_of_eq hzO601))
             replace hX493 := ho.ext hX493 (tr (tr hn521 (tr hn552 (tr hn583 hs588))) (Nat.le_of_eq hzO601))
             replace hX524 := ho.ext hX524 (tr (tr hn552 (tr hn583 hs588)) (Nat.le_of_eq hzO601))
             replace hX555 := ho.ext hX555 (tr (tr hn583 hs588) (Nat.le_of_eq hzO601))
             replace hX586 := ho.ext hX586 (tr hs588 (Nat.le_of_eq hzO601))
             replace hR607 := ho.ints (fun ad e => Nat.ne_of_gt (Nat.lt_of_lt_of_le lt604 (tr (Nat.le_refl _) (hfr608 ad e).1))) hR607
             have hs612 : w609.heap.size ≤ X611.heap.size := Nat.le_of_eq ho.size.symm
             clear ho hk bO601_0
             have bO601_0 := hv0; clear hv0
             refine ⟨⟨(hX78.cell ceD), (hX78.cell ceJ)⟩, ?_⟩
             refine wk 14 (.int .i64 (orE (vD && vJ) 50 : Int)) hR (⟨(hX78.cell ceD), (hX78.cell ceJ)⟩) ?_
             refine wd_end hL hR hK (by kernel_rfl) ?_
             exact qw_leaf hJ [13, 15, 17, 18, 27, 43, 44, 45, 46, 47, 48, 49, 50, 51, 52, 53, 54, 55] (ws' := [(13, .pointer (some ⟨O13, 0, none⟩)), (15, .bool true), (17, .slice (some ⟨O64, 0, none⟩) 4 4), (18, .slice (some ⟨O74, 0, none⟩) 4 4), (27, .int .i64 (((ib : Nat) : Int) : Int)), (43, .int .i64 (((lb : Nat) : Int) : Int)), (44, .pointer (some ⟨O440, 0, none⟩)), (45, .int .i64 (orE (vD && vJ) 50 : Int)), (46, .pointer (some ⟨O471, 0, none⟩)), (47, .int .i64 (orE (vD && vJ) 50 : Int)), (48, .pointer (some ⟨O502, 0, none⟩)), (49, .int .i64 (orE (vD && vJ) 50 : Int)), (50, .pointer (some ⟨O533, 0, none⟩)), (51, .int .i64 (orE (vD && vJ) 50 : Int)), (52, .pointer (some ⟨O564, 0, none⟩)), (53, .int .i64 (orE (vD && vJ) 50 : Int)), (54, .pointer (some ⟨O601, 0, none⟩)), (55, .int .i64 (orE (vD && vJ) 50 : Int))]) (by kernel_rfl) ⟨ra605, rk606, O601, rfl, hE, hX78, hX431, hX462, hX493, hX524, hX555, hX586, hR607, bO601_0, (tr hs588 (tr hs603 (tr hs610 hs612))), (tr hs588 (Nat.le_of_eq hzO601))⟩
           ·
            clear hE hX78 hX431 hX462 hX493 hX524 hX555 hX586
            rintro L ws Y613 ⟨ra589, rk590, O595, rfl, hE, hX78, hX431, hX462, hX493, hX524, hX555, hX586, hR591, bO595_0, hn614, hn615⟩
            have lt616 := bO595_0.lt
            refine qw_then ?_
            refine cw_clean [13, 15, 17, 18, 27, 43, 44, 45, 46, 47, 48, 49, 50, 51, 52, 53, 54, 55] (ws' := [(13, .pointer (some ⟨O13, 0, none⟩)), (15, .bool true), (17, .slice (some ⟨O64, 0, none⟩) 4 4), (18, .slice (some ⟨O74, 0, none⟩) 4 4), (27, .int .i64 (((ib : Nat) : Int) : Int)), (43, .int .i64 (((lb : Nat) : Int) : Int)), (44, .pointer (some ⟨O440, 0, none⟩)), (45, .int .i64 (orE (vD && vJ) 50 : Int)), (46, .pointer (some ⟨O471, 0, none⟩)), (47, .int .i64 (orE (vD && vJ) 50 : Int)), (48, .pointer (some ⟨O502, 0, none⟩)), (49, .int .i64 (orE (vD && vJ) 50 : Int)), (50, .pointer (some ⟨O533, 0, none⟩)), (51, .int .i64 (orE (vD && vJ) 50 : Int)), (52, .pointer (some ⟨O564, 0, none⟩)), (53, .int .i64 (orE (vD && vJ) 50 : Int)), (54, .pointer (some ⟨O595, 0, none⟩)), (55, .int .i64 (orE (vD && vJ) 50 : Int))]) (by kernel_rfl) (fun L => ?_)
            refine cw_seq ?_
            have hX617 : Ext Y613 Y613 := Ext.refl _
            refine cw_draw [(some 449, [45], []), (some 450, [47], []), (some 451, [449, 450], [0, 1]), (some 452, [451], [2]), (some 453, [49, 452], [3]), (some 454, [51, 452], [3]), (some 455, [453, 454, 452], [4, 5, 3]), (some 456, [452, 455], [3, 6]), (some 457, [456], [7, 3]), (some 458, [53, 457], [8]), (some 459, [55, 457], [8]), (some 460, [458, 459, 457], [9, 10, 8]), (some 461, [457, 460], [8, 11]), (some 462, [461], [12, 8]), (some 463, [44, 462], [13]), (some 464, [46, 462], [13]), (some 465, [463, 464, 462], [14, 15, 13, 13]), (some 466, [465, 462], [16, 13]), (some 467, [462, 466], [13, 17]), (some 468, [467], [18, 16]), (some 469, [48, 468], [19]), (some 470, [50, 468], [19]), (some 471, [469, 470, 468], [20, 21, 19, 19]), (some 472, [471, 468], [22, 19]), (some 473, [468, 472], [19, 23]), (some 474, [473], [24, 22]), (some 475, [52, 474], [25]), (some 476, [54, 474], [25]), (some 477, [475, 476, 474], [26, 27, 25, 25]), (some 478, [477, 474], [28, 25]), (some 479, [474, 478], [25, 29]), (some 480, [479], [30, 28]), (some 481, [17, 480], [31]), (some 482, [27, 480], [31]), (some 483, [481, 482, 480], [32, 33, 31]), (some 484, [483, 480], [34, 31]), (some 485, [17, 480], [31]), (some 486, [43, 480], [31]), (some 487, [485, 486, 480], [36, 37, 31]), (some 488, [487, 480], [38, 31]), (some 489, [484, 488, 480], [35, 39, 31, 31]), (some 490, [17, 480], [31]), (some 491, [27, 480], [31]), (some 492, [490, 491, 480], [41, 42, 31]), (some 493, [492, 480], [43, 31]), (some 494, [17, 480], [31]), (some 495, [43, 480], [31]), (some 496, [494, 495, 480], [45, 46, 31]), (some 497, [496, 480], [47, 31]), (some 498, [493, 497, 480], [44, 48, 40, 31]), (some 499, [489, 498, 480], [40, 49, 31]), (some 500, [480, 499], [31, 50]), (some 501, [500], [51, 49]), (some 502, [17, 501], [52]), (some 503, [27, 501], [52]), (some 504, [502, 503, 501], [53, 54, 52]), (some 505, [504, 501], [55, 52]), (some 506, [17, 501], [52]), (some 507, [43, 501], [52]), (some 508, [506, 507, 501], [57, 58, 52]), (some 509, [508, 501], [59, 52]), (some 510, [505, 509, 501], [56, 60, 52, 52]), (some 511, [17, 501], [52]), (some 512, [27, 501], [52]), (some 513, [511, 512, 501], [62, 63, 52]), (some 514, [513, 501], [64, 52]), (some 515, [17, 501], [52]), (some 516, [43, 501], [52]), (some 517, [515, 516, 501], [66, 67, 52]), (some 518, [517, 501], [68, 52]), (some 519, [514, 518, 501], [65, 69, 61, 52]), (some 520, [510, 519, 501], [61, 70, 52]), (some 521, [501, 520], [52, 71])] (fun w' => w'.cell? ⟨O440, 0, none⟩ = some (.slice ra434 ((orL (vD && vJ) (Globe.unionL lD lJ)).length) rk435) ∧ w'.cell? ⟨O471, 0, none⟩ = some (.slice ra465 ((orL (vD && vJ) (Globe.unionL lD lJ)).length) rk466) ∧ w'.cell? ⟨O502, 0, none⟩ = some (.slice ra496 ((orL (vD && vJ) (Globe.meetL lD lJ)).length) rk497) ∧ w'.cell? ⟨O533, 0, none⟩ = some (.slice ra527 ((orL (vD && vJ) (Globe.meetL lD lJ)).length) rk528) ∧ w'.cell? ⟨O564, 0, none⟩ = some (.slice ra558 ((orL (vD && vJ) (Globe.lessL lD lJ)).length) rk559) ∧ w'.cell? ⟨O595, 0, none⟩ = some (.slice ra589 ((orL (vD && vJ) (Globe.lessL lD lJ)).length) rk590) ∧ w'.cell? ⟨O64, ib, none⟩ = some (.slice aD nD cD) ∧ w'.cell? ⟨O64, lb, none⟩ = some (.slice aJ nJ cJ)) (by kernel_rfl) (by kernel_rfl) (by kernel_rfl) (by kernel_rfl) ((calm_then (calm_block (calm_then (calm_then (calm_block (calm_block (calm_then (calm_then (calm_block (calm_then calm_body))))))))))) (⟨(Bx hX462 bO440_0).1, (Bx hX493 bO471_0).1, (Bx hX524 bO502_0).1, (Bx hX555 bO533_0).1, (Bx hX586 bO564_0).1, bO595_0.1, (hX78.cell ceD), (hX78.cell ceJ)⟩) (fun ops Q X618 hb hL hR hK => ?_)
            replace hE := hE.trans hb
            replace hX78 := hX78.trans hb
            replace hX431 := hX431.trans hb
            replace hX462 := hX462.trans hb
            replace hX493 := hX493.trans hb
            replace hX524 := hX524.trans hb
            replace hX555 := hX555.trans hb
            replace hX586 := hX586.trans hb
            replace hX617 := hX617.trans hb
            have hs619 := hb.size
            clear hb
            have hs9 := And.intro (BoxAt.ext hX462 bO440_0).1 (And.intro (BoxAt.ext hX493 bO471_0).1 (And.intro (BoxAt.ext hX524 bO502_0).1 (And.intro (BoxAt.ext hX555 bO533_0).1 (And.intro (BoxAt.ext hX586 bO564_0).1 (And.intro (BoxAt.ext hX617 bO595_0).1 (And.intro (hX78.cell ceD) (hX78.cell ceJ)))))))
            refine wk 0 (.int .i64 (orE (vD && vJ) 50 : Int)) hR hs9 ?_
            refine wk 1 (.int .i64 (orE (vD && vJ) 50 : Int)) hR hs9 ?_
            refine wl 2 (.bool false) hR hs9 rfl (fun w _ => ev_nne (show _ = Result.ok (Next.value (Value.bool ((orE (vD && vJ) 50 : Int) != (orE (vD && vJ) 50 : Int)))) _ from by kernel_rfl) (rfl)) ?_
            refine wk 3 (.bool false) hR hs9 ?_
            refine wk 4 (.int .i64 (orE (vD && vJ) 50 : Int)) hR hs9 ?_
            refine wk 5 (.int .i64 (orE (vD && vJ) 50 : Int)) hR hs9 ?_
            refine wl 6 (.bool false) hR hs9 rfl (fun w _ => ev_nne (show _ = Result.ok (Next.value (Value.bool ((orE (vD && vJ) 50 : Int) != (orE (vD && vJ) 50 : Int)))) _ from by kernel_rfl) (rfl)) ?_
            refine wk 7 (.bool false) hR hs9 ?_
            refine wk 8 (.bool false) hR hs9 ?_
            refine wk 9 (.int .i64 (orE (vD && vJ) 50 : Int)) hR hs9 ?_
            refine wk 10 (.int .i64 (orE (vD && vJ) 50 : Int)) hR hs9 ?_
            refine wl 11 (.bool false) hR hs9 rfl (fun w _ => ev_nne (show _ = Result.ok (Next.value (Value.bool ((orE (vD && vJ) 50 : Int) != (orE (vD && vJ) 50 : Int)))) _ from by kernel_rfl) (rfl)) ?_
            refine wk 12 (.bool false) hR hs9 ?_
            refine wk 13 (.bool false) hR hs9 ?_
            refine wl 14 (.agg #[.slice ra434 ((orL (vD && vJ) (Globe.unionL lD lJ)).length) rk435]) hR hs9 rfl (fun w hS => ex_load rfl (by kernel_rfl) (ld25 (hS.1))) ?_
            refine wl 15 (.agg #[.slice ra465 ((orL (vD && vJ) (Globe.unionL lD lJ)).length) rk466]) hR hs9 rfl (fun w hS => ex_load rfl (by kernel_rfl) (ld25 (hS.2.1))) ?_
            refine wd_step 16 hR rfl (by kernel_rfl) (by kernel_rfl) (by kernel_rfl) (sn_call (f := 21) (args := #[.agg #[.slice ra434 ((orL (vD && vJ) (Globe.unionL lD lJ)).length) rk435], .agg #[.slice ra465 ((orL (vD && vJ) (Globe.unionL lD lJ)).length) rk466]]) (by kernel_rfl) ((rSame_t _ _ _ (aa_of hR436 (orL_len (by unfold Globe.unionL; rw [Globe.rowsF_len]; omega))) hX462 (aa_of hR467 (orL_len (by unfold Globe.unionL; rw [Globe.rowsF_len]; omega))) hX493).mono ?_))
            rintro e w620 ⟨rfl, hb⟩
            replace hE := hE.trans hb
            replace hX78 := hX78.trans hb
            replace hX431 := hX431.trans hb
            replace hX462 := hX462.trans hb
            replace hX493 := hX493.trans hb
            replace hX524 := hX524.trans hb
            replace hX555 := hX555.trans hb
            replace hX586 := hX586.trans hb
            replace hX617 := hX617.trans hb
            have hs621 := hb.size
            clear hb
            refine ⟨_, rfl, ⟨(Bx hX462 bO440_0).1, (Bx hX493 bO471_0).1, (Bx hX524 bO502_0).1, (Bx hX555 bO533_0).1, (Bx hX586 bO564_0).1, (Bx hX617 bO595_0).1, (hX78.cell ceD), (hX78.cell ceJ)⟩, ?_⟩
            have hs9 := And.intro (BoxAt.ext hX462 bO440_0).1 (And.intro (BoxAt.ext hX493 bO471_0).1 (And.intro (BoxAt.ext hX524 bO502_0).1 (And.intro (BoxAt.ext hX555 bO533_0).1 (And.intro (BoxAt.ext hX586 bO564_0).1 (And.intro (BoxAt.ext hX617 bO595_0).1 (And.intro (hX78.cell ceD) (hX78.cell ceJ)))))))
            refine wk 17 (.bool false) hR hs9 ?_
            refine wk 18 (.bool false) hR hs9 ?_
            refine wk 19 (.bool false) hR hs9 ?_
            refine wl 20 (.agg #[.slice ra496 ((orL (vD && vJ) (Globe.meetL lD lJ)).length) rk497]) hR hs9 rfl (fun w hS => ex_load rfl (by kernel_rfl) (ld25 (hS.2.2.1))) ?_
            refine wl 21 (.agg #[.slice ra527 ((orL (vD && vJ) (Globe.meetL lD lJ)).length) rk528]) hR hs9 rfl (fun w hS => ex_load rfl (by kernel_rfl) (ld25 (hS.2.2.2.1))) ?_
            refine wd_step 22 hR rfl (by kernel_rfl) (by kernel_rfl) (by kernel_rfl) (sn_call (f := 21) (args := #[.agg #[.slice ra496 ((orL (vD && vJ) (Globe.meetL lD lJ)).length) rk497], .agg #[.slice ra527 ((orL (vD && vJ) (Globe.meetL lD lJ)).length) rk528]]) (by kernel_rfl) ((rSame_t _ _ _ (aa_of hR498 (orL_len (by unfold Globe.meetL; rw [Globe.rowsF_len]; omega))) hX524 (aa_of hR529 (orL_len (by unfold Globe.meetL; rw [Globe.rowsF_len]; omega))) hX555).mono ?_))
            rintro e w622 ⟨rfl, hb⟩
            replace hE := hE.trans hb
            replace hX78 := hX78.trans hb
            replace hX431 := hX431.trans hb
            replace hX462 := hX462.trans hb
            replace hX493 := hX493.trans hb
            replace hX524 := hX524.trans hb
            replace hX555 := hX555.trans hb
            replace hX586 := hX586.trans hb
            replace hX617 := hX617.trans hb
            have hs623 := hb.size
            clear hb
            refine ⟨_, rfl, ⟨(Bx hX462 bO440_0).1, (Bx hX493 bO471_0).1, (Bx hX524 bO502_0).1, (Bx hX555 bO533_0).1, (Bx hX586 bO564_0).1, (Bx hX617 bO595_0).1, (hX78.cell ceD), (hX78.cell ceJ)⟩, ?_⟩
            have hs9 := And.intro (BoxAt.ext hX462 bO440_0).1 (And.intro (BoxAt.ext hX493 bO471_0).1 (And.intro (BoxAt.ext hX524 bO502_0).1 (And.intro (BoxAt.ext hX555 bO533_0).1 (And.intro (BoxAt.ext hX586 bO564_0).1 (And.intro (BoxAt.ext hX617 bO595_0).1 (And.intro (hX78.cell ceD) (hX78.cell ceJ)))))))
            refine wk 23 (.bool false) hR hs9 ?_
            refine wk 24 (.bool false) hR hs9 ?_
            refine wk 25 (.bool false) hR hs9 ?_
            refine wl 26 (.agg #[.slice ra558 ((orL (vD && vJ) (Globe.lessL lD lJ)).length) rk559]) hR hs9 rfl (fun w hS => ex_load rfl (by kernel_rfl) (ld25 (hS.2.2.2.2.1))) ?_
            refine wl 27 (.agg #[.slice ra589 ((orL (vD && vJ) (Globe.lessL lD lJ)).length) rk590]) hR hs9 rfl (fun w hS => ex_load rfl (by kernel_rfl) (ld25 (hS.2.2.2.2.2.1))) ?_
            refine wd_step 28 hR rfl (by kernel_rfl) (by kernel_rfl) (by kernel_rfl) (sn_call (f := 21) (args := #[.agg #[.slice ra558 ((orL (vD && vJ) (Globe.lessL lD lJ)).length) rk559], .agg #[.slice ra589 ((orL (vD && vJ) (Globe.lessL lD lJ)).length) rk590]]) (by kernel_rfl) ((rSame_t _ _ _ (aa_of hR560 (orL_len (by unfold Globe.lessL; rw [Globe.rowsF_len]; omega))) hX586 (aa_of hR591 (orL_len (by unfold Globe.lessL; rw [Globe.rowsF_len]; omega))) hX617).mono ?_))
            rintro e w624 ⟨rfl, hb⟩
            replace hE := hE.trans hb
            replace hX78 := hX78.trans hb
            replace hX431 := hX431.trans hb
            replace hX462 := hX462.trans hb
            replace hX493 := hX493.trans hb
            replace hX524 := hX524.trans hb
            replace hX555 := hX555.trans hb
            replace hX586 := hX586.trans hb
            replace hX617 := hX617.trans hb
            have hs625 := hb.size
            clear hb
            refine ⟨_, rfl, ⟨(Bx hX462 bO440_0).1, (Bx hX493 bO471_0).1, (Bx hX524 bO502_0).1, (Bx hX555 bO533_0).1, (Bx hX586 bO564_0).1, (Bx hX617 bO595_0).1, (hX78.cell ceD), (hX78.cell ceJ)⟩, ?_⟩
            have hs9 := And.intro (BoxAt.ext hX462 bO440_0).1 (And.intro (BoxAt.ext hX493 bO471_0).1 (And.intro (BoxAt.ext hX524 bO502_0).1 (And.intro (BoxAt.ext hX555 bO533_0).1 (And.intro (BoxAt.ext hX586 bO564_0).1 (And.intro (BoxAt.ext hX617 bO595_0).1 (And.intro (hX78.cell ceD) (hX78.cell ceJ)))))))
            refine wk 29 (.bool false) hR hs9 ?_
            refine wk 30 (.bool false) hR hs9 ?_
            refine wk 31 (.bool false) hR hs9 ?_
            refine wk 32 (.slice (some ⟨O64, 0, none⟩) 4 4) hR hs9 ?_
            refine wk 33 (.int .i64 (((ib : Nat) : Int) : Int)) hR hs9 ?_
            refine wl 34 (.pointer (some ⟨O64, ib, none⟩)) hR hs9 rfl (fun w _ => ex_index (p := .slice (some ⟨O64, 0, none⟩) 4 4) (i := .int .i64 ((ib : Nat) : Int)) rfl (by kernel_rfl) (by kernel_rfl) (ix33z (k := ib) (by omega))) ?_
            refine wl 35 (.agg #[.slice aD nD cD]) hR hs9 rfl (fun w hS => ex_load rfl (by kernel_rfl) (ld25 (hS.2.2.2.2.2.2.1))) ?_
            refine wk 36 (.slice (some ⟨O64, 0, none⟩) 4 4) hR hs9 ?_
            refine wk 37 (.int .i64 (((lb : Nat) : Int) : Int)) hR hs9 ?_
            refine wl 38 (.pointer (some ⟨O64, lb, none⟩)) hR hs9 rfl (fun w _ => ex_index (p := .slice (some ⟨O64, 0, none⟩) 4 4) (i := .int .i64 ((lb : Nat) : Int)) rfl (by kernel_rfl) (by kernel_rfl) (ix33z (k := lb) (by omega))) ?_
            refine wl 39 (.agg #[.slice aJ nJ cJ]) hR hs9 rfl (fun w hS => ex_load rfl (by kernel_rfl) (ld25 (hS.2.2.2.2.2.2.2))) ?_
            refine wk 41 (.slice (some ⟨O64, 0, none⟩) 4 4) hR hs9 ?_
            refine wk 42 (.int .i64 (((ib : Nat) : Int) : Int)) hR hs9 ?_
            refine wl 43 (.pointer (some ⟨O64, ib, none⟩)) hR hs9 rfl (fun w _ => ex_index (p := .slice (some ⟨O64, 0, none⟩) 4 4) (i := .int .i64 ((ib : Nat) : Int)) rfl (by kernel_rfl) (by kernel_rfl) (ix33z (k := ib) (by omega))) ?_
            refine wl 44 (.agg #[.slice aD nD cD]) hR hs9 rfl (fun w hS => ex_load rfl (by kernel_rfl) (ld25 (hS.2.2.2.2.2.2.1))) ?_
            refine wk 45 (.slice (some ⟨O64, 0, none⟩) 4 4) hR hs9 ?_
            refine wk 46 (.int .i64 (((lb : Nat) : Int) : Int)) hR hs9 ?_
            refine wl 47 (.pointer (some ⟨O64, lb, none⟩)) hR hs9 rfl (fun w _ => ex_index (p := .slice (some ⟨O64, 0, none⟩) 4 4) (i := .int .i64 ((lb : Nat) : Int)) rfl (by kernel_rfl) (by kernel_rfl) (ix33z (k := lb) (by omega))) ?_
            refine wl 48 (.agg #[.slice aJ nJ cJ]) hR hs9 rfl (fun w hS => ex_load rfl (by kernel_rfl) (ld25 (hS.2.2.2.2.2.2.2))) ?_
            refine wd_step 40 hR rfl (by kernel_rfl) (by kernel_rfl) (by kernel_rfl) (sn_call (f := 43) (args := #[.agg #[.slice aD nD cD], .agg #[.slice aJ nJ cJ]]) (by kernel_rfl) ((Contains_c _ _ _ aaD hX78 aaJ hX78).mono ?_))
            rintro e w626 ⟨rfl, hb⟩
            replace hE := hE.trans hb
            replace hX78 := hX78.trans hb
            replace hX431 := hX431.trans hb
            replace hX462 := hX462.trans hb
            replace hX493 := hX493.trans hb
            replace hX524 := hX524.trans hb
            replace hX555 := hX555.trans hb
            replace hX586 := hX586.trans hb
            replace hX617 := hX617.trans hb
            have hs627 := hb.size
            clear hb
            refine ⟨_, rfl, ⟨(Bx hX462 bO440_0).1, (Bx hX493 bO471_0).1, (Bx hX524 bO502_0).1, (Bx hX555 bO533_0).1, (Bx hX586 bO564_0).1, (Bx hX617 bO595_0).1, (hX78.cell ceD), (hX78.cell ceJ)⟩, ?_⟩
            refine wd_step 49 hR rfl (by kernel_rfl) (by kernel_rfl) (by kernel_rfl) (sn_call (f := 44) (args := #[.agg #[.slice aD nD cD], .agg #[.slice aJ nJ cJ]]) (by kernel_rfl) ((rContains_c _ _ _ aaD hX78 aaJ hX78).mono ?_))
            rintro e w628 ⟨rfl, hb⟩
            replace hE := hE.trans hb
            replace hX78 := hX78.trans hb
            replace hX431 := hX431.trans hb
            replace hX462 := hX462.trans hb
            replace hX493 := hX493.trans hb
            replace hX524 := hX524.trans hb
            replace hX555 := hX555.trans hb
            replace hX586 := hX586.trans hb
            replace hX617 := hX617.trans hb
            have hs629 := hb.size
            clear hb
            refine ⟨_, rfl, ⟨(Bx hX462 bO440_0).1, (Bx hX493 bO471_0).1, (Bx hX524 bO502_0).1, (Bx hX555 bO533_0).1, (Bx hX586 bO564_0).1, (Bx hX617 bO595_0).1, (hX78.cell ceD), (hX78.cell ceJ)⟩, ?_⟩
            have hs9 := And.intro (BoxAt.ext hX462 bO440_0).1 (And.intro (BoxAt.ext hX493 bO471_0).1 (And.intro (BoxAt.ext hX524 bO502_0).1 (And.intro (BoxAt.ext hX555 bO533_0).1 (And.intro (BoxAt.ext hX586 bO564_0).1 (And.intro (BoxAt.ext hX617 bO595_0).1 (And.intro (hX78.cell ceD) (hX78.cell ceJ)))))))
            refine wl 50 (.bool false) hR hs9 rfl (fun w _ => ev_bool (show _ = Result.ok (Next.value (Value.bool ((Globe.containsB lD lJ) != (Globe.containsB lD lJ)))) _ from by kernel_rfl) (by simp)) ?_
            refine wk 51 (.bool false) hR hs9 ?_
            refine wk 52 (.bool false) hR hs9 ?_
            refine wk 53 (.slice (some ⟨O64, 0, none⟩) 4 4) hR hs9 ?_
            refine wk 54 (.int .i64 (((ib : Nat) : Int) : Int)) hR hs9 ?_
            refine wl 55 (.pointer (some ⟨O64, ib, none⟩)) hR hs9 rfl (fun w _ => ex_index (p := .slice (some ⟨O64, 0, none⟩) 4 4) (i := .int .i64 ((ib : Nat) : Int)) rfl (by kernel_rfl) (by kernel_rfl) (ix33z (k := ib) (by omega))) ?_
            refine wl 56 (.agg #[.slice aD nD cD]) hR hs9 rfl (fun w hS => ex_load rfl (by kernel_rfl) (ld25 (hS.2.2.2.2.2.2.1))) ?_
            refine wk 57 (.slice (some ⟨O64, 0, none⟩) 4 4) hR hs9 ?_
            refine wk 58 (.int .i64 (((lb : Nat) : Int) : Int)) hR hs9 ?_
            refine wl 59 (.pointer (some ⟨O64, lb, none⟩)) hR hs9 rfl (fun w _ => ex_index (p := .slice (some ⟨O64, 0, none⟩) 4 4) (i := .int .i64 ((lb : Nat) : Int)) rfl (by kernel_rfl) (by kernel_rfl) (ix33z (k := lb) (by omega))) ?_
            refine wl 60 (.agg #[.slice aJ nJ cJ]) hR hs9 rfl (fun w hS => ex_load rfl (by kernel_rfl) (ld25 (hS.2.2.2.2.2.2.2))) ?_
            refine wk 62 (.slice (some ⟨O64, 0, none⟩) 4 4) hR hs9 ?_
            refine wk 63 (.int .i64 (((ib : Nat) : Int) : Int)) hR hs9 ?_
            refine wl 64 (.pointer (some ⟨O64, ib, none⟩)) hR hs9 rfl (fun w _ => ex_index (p := .slice (some ⟨O64, 0, none⟩) 4 4) (i := .int .i64 ((ib : Nat) : Int)) rfl (by kernel_rfl) (by kernel_rfl) (ix33z (k := ib) (by omega))) ?_
            refine wl 65 (.agg #[.slice aD nD cD]) hR hs9 rfl (fun w hS => ex_load rfl (by kernel_rfl) (ld25 (hS.2.2.2.2.2.2.1))) ?_
            refine wk 66 (.slice (some ⟨O64, 0, none⟩) 4 4) hR hs9 ?_
            refine wk 67 (.int .i64 (((lb : Nat) : Int) : Int)) hR hs9 ?_
            refine wl 68 (.pointer (some ⟨O64, lb, none⟩)) hR hs9 rfl (fun w _ => ex_index (p := .slice (some ⟨O64, 0, none⟩) 4 4) (i := .int .i64 ((lb : Nat) : Int)) rfl (by kernel_rfl) (by kernel_rfl) (ix33z (k := lb) (by omega))) ?_
            refine wl 69 (.agg #[.slice aJ nJ cJ]) hR hs9 rfl (fun w hS => ex_load rfl (by kernel_rfl) (ld25 (hS.2.2.2.2.2.2.2))) ?_
            refine wd_step 61 hR rfl (by kernel_rfl) (by kernel_rfl) (by kernel_rfl) (sn_call (f := 45) (args := #[.agg #[.slice aD nD cD], .agg #[.slice aJ nJ cJ]]) (by kernel_rfl) ((Same_c _ _ _ aaD hX78 aaJ hX78).mono ?_))
            rintro e w630 ⟨rfl, hb⟩
            replace hE := hE.trans hb
            replace hX78 := hX78.trans hb
            replace hX431 := hX431.trans hb
            replace hX462 := hX462.trans hb
            replace hX493 := hX493.trans hb
            replace hX524 := hX524.trans hb
            replace hX555 := hX555.trans hb
            replace hX586 := hX586.trans hb
            replace hX617 := hX617.trans hb
            have hs631 := hb.size
            clear hb
            refine ⟨_, rfl, ⟨(Bx hX462 bO440_0).1, (Bx hX493 bO471_0).1, (Bx hX524 bO502_0).1, (Bx hX555 bO533_0).1, (Bx hX586 bO564_0).1, (Bx hX617 bO595_0).1, (hX78.cell ceD), (hX78.cell ceJ)⟩, ?_⟩
            refine wd_step 70 hR rfl (by kernel_rfl) (by kernel_rfl) (by kernel_rfl) (sn_call (f := 21) (args := #[.agg #[.slice aD nD cD], .agg #[.slice aJ nJ cJ]]) (by kernel_rfl) ((rSame_c _ _ _ aaD hX78 aaJ hX78).mono ?_))
            rintro e w632 ⟨rfl, hb⟩
            replace hE := hE.trans hb
            replace hX78 := hX78.trans hb
            replace hX431 := hX431.trans hb
            replace hX462 := hX462.trans hb
            replace hX493 := hX493.trans hb
            replace hX524 := hX524.trans hb
            replace hX555 := hX555.trans hb
            replace hX586 := hX586.trans hb
            replace hX617 := hX617.trans hb
            have hs633 := hb.size
            clear hb
            refine ⟨_, rfl, ⟨(Bx hX462 bO440_0).1, (Bx hX493 bO471_0).1, (Bx hX524 bO502_0).1, (Bx hX555 bO533_0).1, (Bx hX586 bO564_0).1, (Bx hX617 bO595_0).1, (hX78.cell ceD), (hX78.cell ceJ)⟩, ?_⟩
            have hs9 := And.intro (BoxAt.ext hX462 bO440_0).1 (And.intro (BoxAt.ext hX493 bO471_0).1 (And.intro (BoxAt.ext hX524 bO502_0).1 (And.intro (BoxAt.ext hX555 bO533_0).1 (And.intro (BoxAt.ext hX586 bO564_0).1 (And.intro (BoxAt.ext hX617 bO595_0).1 (And.intro (hX78.cell ceD) (hX78.cell ceJ)))))))
            refine wl 71 (.bool false) hR hs9 rfl (fun w _ => ev_bool (show _ = Result.ok (Next.value (Value.bool ((decide (lD = lJ)) != (decide (lD = lJ))))) _ from by kernel_rfl) (by simp)) ?_
            refine wk 72 (.bool false) hR hs9 ?_
            refine wd_end hL hR hK (by kernel_rfl) ?_
            refine qw_then ?_
            refine cw_clean [13, 15, 17, 18, 27, 43, 521] (ws' := [(13, .pointer (some ⟨O13, 0, none⟩)), (15, .bool true), (17, .slice (some ⟨O64, 0, none⟩) 4 4), (18, .slice (some ⟨O74, 0, none⟩) 4 4), (27, .int .i64 (((ib : Nat) : Int) : Int)), (43, .int .i64 (((lb : Nat) : Int) : Int)), (521, .bool false)]) (by kernel_rfl) (fun L => ?_)
            refine cw_f (by kernel_rfl) ?_
            refine cw_skip ?_
            refine qw_block ?_
            refine qw_then ?_
            refine cw_plain ?_
            refine pk (.int .i64 (((lb : Nat) : Int) : Int)) ?_
            refine pl_take (.int .i64 (((lb + 1 : Nat) : Int) : Int)) rfl (by kernel_rfl) (by kernel_rfl) (by kernel_rfl) (ev_wrap (by kernel_rfl) (by omega) (by omega)) ?_
            refine pk (.int .i64 (((lb + 1 : Nat) : Int) : Int)) ?_
            refine pl_nil ?_
            refine qw_round [13, 15, 17, 18, 27, 43] (ws' := [(13, .pointer (some ⟨O13, 0, none⟩)), (15, .bool true), (17, .slice (some ⟨O64, 0, none⟩) 4 4), (18, .slice (some ⟨O74, 0, none⟩) 4 4), (27, .int .i64 (((ib : Nat) : Int) : Int)), (43, .int .i64 (((lb + 1 : Nat) : Int) : Int))]) (by kernel_rfl) _ ?_ ⟨(lb + 1), rfl, rfl, (tr hs428 (tr hn459 (tr hn490 (tr hn521 (tr hn552 (tr hn583 (tr hn614 (tr hs619 (tr hs621 (tr hs623 (tr hs625 (tr hs627 (tr hs629 (tr hs631 hs633)))))))))))))), hE, hX78, by omega⟩
            omega
     ·
      refine cw_seq ?_
      refine cw_seq ?_
      refine cw_plain ?_
      refine pk (.int .i64 (((lb : Nat) : Int) : Int)) ?_
      refine pk (.slice (some ⟨O64, 0, none⟩) 4 4) ?_
      refine pk (.int .i64 4) ?_
      refine pl_take (.bool false) rfl (by kernel_rfl) (by kernel_rfl) (by kernel_rfl) (ev_ndec (show _ = Result.ok (Next.value (Value.bool (decide ((((lb : Nat) : Int) : Int) < (4 : Int))))) _ from by kernel_rfl) (by omega)) ?_
      refine pl_nil ?_
      refine qw_then ?_
      refine cw_f (by kernel_rfl) ?_
      refine cw_exit ?_
      refine qw_then_exit ?_
      refine qw_then_exit ?_
      refine qw_block_out ?_
      refine qw_block ?_
      refine qw_then ?_
      refine cw_plain ?_
      refine pk (.int .i64 (((ib : Nat) : Int) : Int)) ?_
      refine pl_take (.int .i64 (((ib + 1 : Nat) : Int) : Int)) rfl (by kernel_rfl) (by kernel_rfl) (by kernel_rfl) (ev_wrap (by kernel_rfl) (by omega) (by omega)) ?_
      refine pk (.int .i64 (((ib + 1 : Nat) : Int) : Int)) ?_
      refine pl_nil ?_
      refine qw_round [13, 15, 17, 18, 27] (ws' := [(13, .pointer (some ⟨O13, 0, none⟩)), (15, .bool true), (17, .slice (some ⟨O64, 0, none⟩) 4 4), (18, .slice (some ⟨O74, 0, none⟩) 4 4), (27, .int .i64 (((ib + 1 : Nat) : Int) : Int))]) (by kernel_rfl) _ ?_ ⟨(ib + 1), rfl, rfl, (tr hs180 (tr hs184 (tr hs186 (tr hs188 (tr hs190 (tr hs192 (tr hs197 (tr hs203 (tr hs206 (tr hs207 (tr hs282 (tr hs287 (tr hs290 hs428))))))))))))), hE, hX78, by omega⟩
      omega
  ·
   refine cw_seq ?_
   refine cw_seq ?_
   refine cw_plain ?_
   refine pk (.int .i64 (((ib : Nat) : Int) : Int)) ?_
   refine pk (.slice (some ⟨O64, 0, none⟩) 4 4) ?_
   refine pk (.int .i64 4) ?_
   refine pl_take (.bool false) rfl (by kernel_rfl) (by kernel_rfl) (by kernel_rfl) (ev_ndec (show _ = Result.ok (Next.value (Value.bool (decide ((((ib : Nat) : Int) : Int) < (4 : Int))))) _ from by kernel_rfl) (by omega)) ?_
   refine pl_nil ?_
   refine qw_then ?_
   refine cw_f (by kernel_rfl) ?_
   refine cw_exit ?_
   refine qw_then_exit ?_
   refine qw_then_exit ?_
   refine qw_block_out ?_
   refine qw_then ?_
   refine cw_seq ?_
   refine cw_plain ?_
   refine pk (.bool true) ?_
   refine pk (.bool true) ?_
   refine pl_step rfl (by kernel_rfl) (by kernel_rfl) (by kernel_rfl) (sn_call (f := 46) (args := #[]) (by kernel_rfl) ((Empty_c _).mono ?_))
   rintro e w637 ⟨B634, rfl, hn635, hr636, hb⟩
   replace hE := hE.trans hb
   replace hX78 := hX78.trans hb
   have hs638 := hb.size
   clear hb
   have hX639 : Ext w637 w637 := Ext.refl _
   refine ⟨_, rfl, ?_⟩
   refine pl_step rfl (by kernel_rfl) (by kernel_rfl) (by kernel_rfl) (sn_call (f := 47) (args := #[]) (by kernel_rfl) ((rEmpty_c _).mono ?_))
   rintro e w643 ⟨B640, rfl, hn641, hr642, hb⟩
   replace hE := hE.trans hb
   replace hX78 := hX78.trans hb
   replace hX639 := hX639.trans hb
   have hs644 := hb.size
   clear hb
   have hX645 : Ext w643 w643 := Ext.refl _
   refine ⟨_, rfl, ?_⟩
   refine pl_step rfl (by kernel_rfl) (by kernel_rfl) (by kernel_rfl) (sn_call (f := 21) (args := #[.agg #[.slice (some ⟨B634, 0, none⟩) 24 24], .agg #[.slice (some ⟨B640, 0, none⟩) 24 24]]) (by kernel_rfl) ((rSame_t _ _ _ hr636.aaL hX639 hr642.aaL (Ext.refl _)).mono ?_))
   rintro e w646 ⟨rfl, hb⟩
   replace hE := hE.trans hb
   replace hX78 := hX78.trans hb
   replace hX639 := hX639.trans hb
   replace hX645 := hX645.trans hb
   have hs647 := hb.size
   clear hb
   refine ⟨_, rfl, ?_⟩
   refine pk (.bool true) ?_
   refine pk (.bool true) ?_
   refine pl_nil ?_
   refine qw_then ?_
   refine cw_clean [14] (ws' := [(14, .bool true)]) (by kernel_rfl) (fun L => ?_)
   refine cw_ret ?_
   refine qw_ret [.bool true] rfl ⟨(by kernel_rfl), trivial⟩ ?_
   exact ⟨rfl, hE⟩

end Go.Proofs.YtnfknekbbdfdfaaDoor
