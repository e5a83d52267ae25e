/- The statement SwathMatchesReference: for every input that the row lists, the law returns true, and every argument reads as it read before. -/
import Derived.Test.YtdjjkhefdalokaaV7SwathMatchesReference
/- The walk of SwathMatchesReference. -/
namespace Go.Proofs.Ytdjjkhefdalokaa
open Go.RowKit

section
variable {P : Program} {n : Nat} {L : List Value} {ws : List (Nat × Value)} {w : World} {Q : Exit → Act → World → Prop}
/-- A part whose goal forgets what comes behind it. -/
theorem cw_cut {c : Code} (hc : Calm Q) (R : List (Nat × Value) → World → Prop) (main : ∀ Q' : Exit → Act → World → Prop, Calm Q' → (∀ L' ws' w', R ws' w' → QW Q' .normal n L' ws' w') → CW P c Q' n L ws w) (rest : ∀ L' ws' w', R ws' w' → QW Q .normal n L' ws' w') : CW P c Q n L ws w := main Q hc rest
end
theorem QAt.le {w : World} {a : Option Addr} {n k : Nat} {q : Nat → Nat → Int} (h : QAt w a n q) (hk : k ≤ n) : QAt w a k q := by
 rcases h with h | ⟨b, off, ha, hc⟩
 · exact .inl (by omega)
 · exact .inr ⟨b, off, ha, fun i hi => hc i (Nat.lt_of_lt_of_le hi hk)⟩
set_option maxRecDepth 1000000 in
set_option maxHeartbeats 4000000 in
theorem SwathMatchesReference_w (x0 x1 x2 x3 x4 x5 x6 look late mn wd : Int) (ra : Orb) (sh sn : Int × Int) {a : Option Addr} {n c : Nat} {q : Nat → Nat → Int} (ix0 : IsI x0) (ix1 : IsI x1) (ix2 : IsI x2) (ix3 : IsI x3) (ix4 : IsI x4) (ix5 : IsI x5) (ix6 : IsI x6) (ilook : IsI look) (ilate : IsI late) (imn : IsI mn) (iwd : IsI wd) (ish1 : IsI sh.1) (ish2 : IsI sh.2) (isn2 : IsI sn.2) (w : World) (hQ : QAt w a n q) (hnc : n ≤ c) (_hcm : c ≤ 9223372036854775807) : Calls Try.prog 3 #[.agg #[.int .i64 x0, .int .i64 x1, .int .i64 x2, .int .i64 x3, .int .i64 x4, .int .i64 x5, .int .i64 x6], .agg #[.int .i64 ra.p, .int .i64 ra.f, .int .i64 ra.lo, .int .i64 ra.hi, .int .i64 ra.nd, .int .i64 ra.tn, .int .i64 ra.sl], .agg #[.int .i64 sh.1, .int .i64 sh.2], .int .i64 look, .int .i64 late, .agg #[.int .i64 sn.1, .int .i64 sn.2], .int .i64 mn, .int .i64 wd, .slice a n c] w fun e w' => e = .returned (.bool true) ∧ Ext w w' := by
 refine calls_cw 306 [(8, .slice a n c), (7, .int .i64 wd), (6, .int .i64 mn), (5, .agg #[.int .i64 sn.1, .int .i64 sn.2]), (4, .int .i64 late), (3, .int .i64 look), (2, .agg #[.int .i64 sh.1, .int .i64 sh.2]), (1, .agg #[.int .i64 ra.p, .int .i64 ra.f, .int .i64 ra.lo, .int .i64 ra.hi, .int .i64 ra.nd, .int .i64 ra.tn, .int .i64 ra.sl]), (0, .agg #[.int .i64 x0, .int .i64 x1, .int .i64 x2, .int .i64 x3, .int .i64 x4, .int .i64 x5, .int .i64 x6])] Try.func3 rfl Try.ntmps3 (by kernel_rfl) (by kernel_rfl) (fun L => ?_)
 have hE : Ext w w := Ext.refl w
 refine cw_seq ?_; refine cw_plain ?_
 refine pS (sn_new (us := #[.int .i64 x0, .int .i64 x1, .int .i64 x2, .int .i64 x3, .int .i64 x4, .int .i64 x5, .int .i64 x6]) (t := 22) (by kernel_rfl) ?_)
 intro O1 X2 hzO1 hyO1 hb hbx; have ⟨bO1_0, bO1_1, bO1_2, bO1_3, bO1_4, bO1_5, bO1_6⟩ := bx7 hbx; clear hbx
 replace hE := hE.trans hb; have hs3 := hb.size; clear hb; have lt4 := bO1_0.lt
 refine pS (sn_new (us := #[.int .i64 ra.p, .int .i64 ra.f, .int .i64 ra.lo, .int .i64 ra.hi, .int .i64 ra.nd, .int .i64 ra.tn, .int .i64 ra.sl]) (t := 24) (by kernel_rfl) ?_)
 intro O5 X6 hzO5 hyO5 hb hbx; have ⟨bO5_0, bO5_1, bO5_2, bO5_3, bO5_4, bO5_5, bO5_6⟩ := bx7 hbx; clear hbx
 replace hE := hE.trans hb; replace bO1_0 := BoxAt.ext hb bO1_0; replace bO1_1 := BoxAt.ext hb bO1_1; replace bO1_2 := BoxAt.ext hb bO1_2; replace bO1_3 := BoxAt.ext hb bO1_3; replace bO1_4 := BoxAt.ext hb bO1_4; replace bO1_5 := BoxAt.ext hb bO1_5; replace bO1_6 := BoxAt.ext hb bO1_6; have hs7 := hb.size; clear hb; have lt8 := bO5_0.lt
 refine pS (sn_new (us := #[.int .i64 sh.1, .int .i64 sh.2]) (t := 26) (by kernel_rfl) ?_)
 intro O9 X10 hzO9 hyO9 hb hbx; have ⟨bO9_0, bO9_1⟩ := bx2 hbx; clear hbx
 replace hE := hE.trans hb; replace bO1_0 := BoxAt.ext hb bO1_0; replace bO1_1 := BoxAt.ext hb bO1_1; replace bO1_2 := BoxAt.ext hb bO1_2; replace bO1_3 := BoxAt.ext hb bO1_3; replace bO1_4 := BoxAt.ext hb bO1_4; replace bO1_5 := BoxAt.ext hb bO1_5; replace bO1_6 := BoxAt.ext hb bO1_6; replace bO5_0 := BoxAt.ext hb bO5_0; replace bO5_1 := BoxAt.ext hb bO5_1; replace bO5_2 := BoxAt.ext hb bO5_2; replace bO5_3 := BoxAt.ext hb bO5_3; replace bO5_4 := BoxAt.ext hb bO5_4; replace bO5_5 := BoxAt.ext hb bO5_5; replace bO5_6 := BoxAt.ext hb bO5_6; have hs11 := hb.size; clear hb; have lt12 := bO9_0.lt
 refine pS (sn_new (us := #[.int .i64 sn.1, .int .i64 sn.2]) (t := 26) (by kernel_rfl) ?_)
 intro O13 X14 hzO13 hyO13 hb hbx; have ⟨bO13_0, bO13_1⟩ := bx2 hbx; clear hbx
 replace hE := hE.trans hb; replace bO1_0 := BoxAt.ext hb bO1_0; replace bO1_1 := BoxAt.ext hb bO1_1; replace bO1_2 := BoxAt.ext hb bO1_2; replace bO1_3 := BoxAt.ext hb bO1_3; replace bO1_4 := BoxAt.ext hb bO1_4; replace bO1_5 := BoxAt.ext hb bO1_5; replace bO1_6 := BoxAt.ext hb bO1_6; replace bO5_0 := BoxAt.ext hb bO5_0; replace bO5_1 := BoxAt.ext hb bO5_1; replace bO5_2 := BoxAt.ext hb bO5_2; replace bO5_3 := BoxAt.ext hb bO5_3; replace bO5_4 := BoxAt.ext hb bO5_4; replace bO5_5 := BoxAt.ext hb bO5_5; replace bO5_6 := BoxAt.ext hb bO5_6; replace bO9_0 := BoxAt.ext hb bO9_0; replace bO9_1 := BoxAt.ext hb bO9_1; have hs15 := hb.size; clear hb; have lt16 := bO13_0.lt; refine pT (.bool false) ?_; refine pl_nil ?_; refine qw_then ?_; refine cw_seq ?_; have hX17 : Ext X14 X14 := Ext.refl _; refine cw_plain ?_
 refine pS (sn_call (f := 9) (args := #[]) (by kernel_rfl) ((saneS_c _).mono ?_))
 rintro e w18 ⟨rfl, hb⟩
 replace hE := hE.trans hb; replace hX17 := hX17.trans hb; have hs19 := hb.size; clear hb
 refine ⟨_, rfl, ?_⟩
 refine pT (.bool true) ?_; refine pl_nil ?_; refine qw_then ?_; refine cC10 3 4 6 7 8 9 10 11 14 19 (fun L => ?_); refine cw_seq ?_; refine cw_seq ?_; refine cw_plain ?_; refine pT (.bool true) ?_; refine pT (.bool false) ?_; refine pl_nil ?_; refine qw_then ?_
 refine cw_f (by kernel_rfl) ?_
 refine cw_skip ?_
 refine qw_then ?_; refine cw_seq ?_; refine cw_plain ?_; refine pT (.slice a n c) ?_; refine pT (.slice a n c) ?_; refine pT (.int .i64 (((n : Nat) : Int) : Int)) ?_
 refine pU (.int .i64 (((min n 2 : Nat) : Int) : Int)) (ev_int (show _ = Result.ok (Next.value (Value.int .i64 (if (2 : Int) < ((n : Nat) : Int) then 2 else ((n : Nat) : Int)))) _ from by kernel_rfl) (by split <;> omega)) ?_
 refine pU (.slice a (min n 2) c) (ex_slice (p := .slice a n c) rfl (by kernel_rfl) (by kernel_rfl) (by kernel_rfl) (by kernel_rfl) (sl27_010a (m := min n 2) (by omega) (by omega))) ?_
 refine pS (sn_call (f := 10) (args := #[.slice a (min n 2) c]) (by kernel_rfl) ((Made_c _ _ (hQ.le (Nat.min_le_left _ _)) hE (by omega)).mono ?_))
 rintro e w23 ⟨B20, LA, rfl, hn21, hvA, hr22, -, hb⟩
 replace hE := hE.trans hb; replace hX17 := hX17.trans hb; have hs24 := hb.size; clear hb; have lt25 := hr22.lt
 refine ⟨_, rfl, ?_⟩
 refine pS (sn_new (us := #[.slice none 0 0]) (t := 31) (by kernel_rfl) ?_)
 intro O26 X27 hzO26 hyO26 hb hbx; have bO26_0 := bx1 hbx; clear hbx
 replace hE := hE.trans hb; replace hX17 := hX17.trans hb; replace hr22 := hr22.ext hb; have hs28 := hb.size; clear hb; have lt29 := bO26_0.lt
 refine pP (sn_set (O := O26) (j := 0) (v := .slice (some ⟨B20, 0, none⟩) 24 24) (ex_store (p := .pointer (some ⟨O26, 0, none⟩)) (v := .agg #[.slice (some ⟨B20, 0, none⟩) 24 24]) rfl (by kernel_rfl) (by kernel_rfl) (st31 bO26_0.1 bO26_0.2)) bO26_0 ?_)
 intro X30 ho hv0 hk; replace hE := ho.ext hE (T (T hs3 (T hs7 (T hs11 (T hs15 (T hs19 hs24))))) (Nat.le_of_eq hzO26)); replace hX17 := ho.ext hX17 (T (T hs19 hs24) (Nat.le_of_eq hzO26)); replace hr22 := ho.rows (Nat.ne_of_gt (Nat.lt_of_lt_of_le lt25 (Nat.le_of_eq hzO26))) hr22; have hs31 : X27.heap.size ≤ X30.heap.size := Nat.le_of_eq ho.size.symm; clear ho hk bO26_0; have bO26_0 := hv0; clear hv0; refine pl_nil ?_; refine qw_then ?_; refine cC10 3 4 6 7 9 10 11 14 19 20 (fun L => ?_); refine cw_seq ?_; refine cw_plain ?_
 refine pU (.agg #[.int .i64 x0, .int .i64 x1, .int .i64 x2, .int .i64 x3, .int .i64 x4, .int .i64 x5, .int .i64 x6]) (ex_load rfl (by kernel_rfl) (ld22 ((BoxAt.ext hX17 bO1_0).1) ((BoxAt.ext hX17 bO1_1).1) ((BoxAt.ext hX17 bO1_2).1) ((BoxAt.ext hX17 bO1_3).1) ((BoxAt.ext hX17 bO1_4).1) ((BoxAt.ext hX17 bO1_5).1) ((BoxAt.ext hX17 bO1_6).1))) ?_
 refine pS (sn_call (f := 11) (args := #[.agg #[.int .i64 x0, .int .i64 x1, .int .i64 x2, .int .i64 x3, .int .i64 x4, .int .i64 x5, .int .i64 x6]]) (by kernel_rfl) ((Made7_c _ _ _ _ _ _ _ _ ix0 ix1 ix2 ix3 ix4 ix5 ix6).mono ?_))
 rintro e w32 ⟨o, rfl, hok, hsl, hb⟩
 replace hE := hE.trans hb; replace hX17 := hX17.trans hb; replace hr22 := hr22.ext hb; replace bO26_0 := BoxAt.ext hb bO26_0; have hs33 := hb.size; clear hb
 have hq0 := Orb.ok_t.1 hok
 refine ⟨_, rfl, ?_⟩
 refine pS (sn_new (us := #[.int .i64 0, .int .i64 0, .int .i64 0, .int .i64 0, .int .i64 0, .int .i64 0, .int .i64 0]) (t := 24) (by kernel_rfl) ?_)
 intro O34 X35 hzO34 hyO34 hb hbx; have ⟨bO34_0, bO34_1, bO34_2, bO34_3, bO34_4, bO34_5, bO34_6⟩ := bx7 hbx; clear hbx
 replace hE := hE.trans hb; replace hX17 := hX17.trans hb; replace hr22 := hr22.ext hb; replace bO26_0 := BoxAt.ext hb bO26_0; have hs36 := hb.size; clear hb; have lt37 := bO34_0.lt
 refine pP (sn_setK7 (O := O34) (j := 0) (v0 := .int .i64 o.p) (v1 := .int .i64 o.f) (v2 := .int .i64 o.lo) (v3 := .int .i64 o.hi) (v4 := .int .i64 o.nd) (v5 := .int .i64 o.tn) (v6 := .int .i64 o.sl) (ex_store (p := .pointer (some ⟨O34, 0, none⟩)) (v := .agg #[.int .i64 o.p, .int .i64 o.f, .int .i64 o.lo, .int .i64 o.hi, .int .i64 o.nd, .int .i64 o.tn, .int .i64 o.sl]) rfl (by kernel_rfl) (by kernel_rfl) (st24 bO34_0.1 bO34_0.2 bO34_1.1 bO34_1.2 bO34_2.1 bO34_2.2 bO34_3.1 bO34_3.2 bO34_4.1 bO34_4.2 bO34_5.1 bO34_5.2 bO34_6.1 bO34_6.2)) bO34_0 bO34_1 bO34_2 bO34_3 bO34_4 bO34_5 bO34_6 ?_)
 intro X38 ho hv0 hv1 hv2 hv3 hv4 hv5 hv6 hk; replace hE := ho.ext hE (T (T hs3 (T hs7 (T hs11 (T hs15 (T hs19 (T hs24 (T hs28 (T hs31 hs33)))))))) (Nat.le_of_eq hzO34)); replace hX17 := ho.ext hX17 (T (T hs19 (T hs24 (T hs28 (T hs31 hs33)))) (Nat.le_of_eq hzO34)); replace hr22 := ho.rows (Nat.ne_of_gt (Nat.lt_of_lt_of_le lt25 (T (T hs28 (T hs31 hs33)) (Nat.le_of_eq hzO34)))) hr22; replace bO26_0 := ho.box (Nat.ne_of_gt (Nat.lt_of_lt_of_le lt29 (T (T hs31 hs33) (Nat.le_of_eq hzO34)))) bO26_0; have hs39 : X35.heap.size ≤ X38.heap.size := Nat.le_of_eq ho.size.symm; clear ho hk bO34_0 bO34_1 bO34_2 bO34_3 bO34_4 bO34_5 bO34_6; have bO34_0 := hv0; clear hv0; have bO34_1 := hv1; clear hv1; have bO34_2 := hv2; clear hv2; have bO34_3 := hv3; clear hv3; have bO34_4 := hv4; clear hv4; have bO34_5 := hv5; clear hv5; have bO34_6 := hv6; clear hv6; refine pl_nil ?_; refine qw_then ?_; refine cw_seq ?_; have hX40 : Ext X38 X38 := Ext.refl _; refine cw_plain ?_; refine pT (.pointer (some ⟨O9, 0, none⟩)) ?_
 refine pU (.int .i64 sh.1) (ex_load rfl (by kernel_rfl) (ld3 ((BoxAt.ext (hX17.trans hX40) bO9_0).1))) ?_
 refine pT (.pointer (some ⟨O9, 1, none⟩)) ?_
 refine pU (.int .i64 sh.2) (ex_load rfl (by kernel_rfl) (ld3 ((BoxAt.ext (hX17.trans hX40) bO9_1).1))) ?_
 refine pT (.agg #[.int .i64 sh.1, .int .i64 sh.2]) ?_
 refine pS (sn_call (f := 12) (args := #[.agg #[.int .i64 sh.1, .int .i64 sh.2]]) (by kernel_rfl) ((Shot_c _ _ _ ish1 ish2).mono ?_))
 rintro e w41 ⟨s, rfl, hsp30, hsp1, hb⟩
 replace hE := hE.trans hb; replace hX40 := hX40.trans hb; have hs42 := hb.size; clear hb
 have q2 := Swath.spB_t.1 hsp30
 refine ⟨_, rfl, ?_⟩
 refine pS (sn_new (us := #[.int .i64 0, .int .i64 0]) (t := 26) (by kernel_rfl) ?_)
 intro O43 X44 hzO43 hyO43 hb hbx; have ⟨bO43_0, bO43_1⟩ := bx2 hbx; clear hbx
 replace hE := hE.trans hb; replace hX40 := hX40.trans hb; have hs45 := hb.size; clear hb; have lt46 := bO43_0.lt
 refine pP (sn_set2 (O := O43) (j := 0) (v := .int .i64 s.1) (v' := .int .i64 s.2) (ex_store (p := .pointer (some ⟨O43, 0, none⟩)) (v := .agg #[.int .i64 s.1, .int .i64 s.2]) rfl (by kernel_rfl) (by kernel_rfl) (st26 bO43_0.1 bO43_0.2 bO43_1.1 bO43_1.2)) bO43_0 bO43_1 ?_)
 intro X47 ho hv0 hv1 hk; replace hE := ho.ext hE (T (T hs3 (T hs7 (T hs11 (T hs15 (T hs19 (T hs24 (T hs28 (T hs31 (T hs33 (T hs36 (T hs39 hs42))))))))))) (Nat.le_of_eq hzO43)); replace hX40 := ho.ext hX40 (T hs42 (Nat.le_of_eq hzO43)); have hs48 : X44.heap.size ≤ X47.heap.size := Nat.le_of_eq ho.size.symm; clear ho hk bO43_0 bO43_1; have bO43_0 := hv0; clear hv0; have bO43_1 := hv1; clear hv1; refine pl_nil ?_; refine qw_then ?_; refine cC11 3 4 6 7 10 11 14 19 20 21 22 (fun L => ?_); refine cw_seq ?_
 have q2 := Swath.spB_t.1 hsp30
 refine cw_join (fun ws' Y => ∃ pk53 : Nat, ∃ O54 : Nat, ws' = [(3, .int .i64 look), (4, .int .i64 late), (6, .int .i64 mn), (7, .int .i64 wd), (10, .pointer (some ⟨O5, 0, none⟩)), (11, .pointer (some ⟨O9, 0, none⟩)), (14, .pointer (some ⟨O13, 0, none⟩)), (19, .bool true), (20, .pointer (some ⟨O26, 0, none⟩)), (21, .pointer (some ⟨O34, 0, none⟩)), (22, .pointer (some ⟨O43, 0, none⟩)), (23, .pointer (some ⟨O54, 0, none⟩))] ∧ Ext w Y ∧ Ext X38 Y ∧ BoxAt Y O43 0 (.int .i64 s.1) ∧ BoxAt Y O43 1 (.int .i64 s.2) ∧ pk53 < 80 ∧ BoxAt Y O54 0 (.int .i64 s.1) ∧ BoxAt Y O54 1 (.int .i64 ((s.1 + 1) + (((pk53 : Nat) : Int)) : Int)) ∧ X47.heap.size ≤ Y.heap.size ∧ X47.heap.size ≤ O54) (fun hJ => ?_) ?_
 ·
  refine cw_draw [(some 75, [22], []), (some 76, [75], [0]), (some 77, [22], []), (some 78, [77], [2]), (some 79, [78], [3]), (some 80, [14], []), (some 81, [80], [5]), (some 82, [81], [6]), (some 83, [79, 82], [4, 7]), (some 84, [76, 83], [1, 8]), (some 23, [], []), (none, [23, 84], [10, 9, 7, 0, 1, 2, 3, 4, 5, 6, 7, 8, 9, 10])] (fun w' => w'.cell? ⟨O43, 0, none⟩ = some (.int .i64 s.1) ∧ w'.cell? ⟨O13, 1, none⟩ = some (.int .i64 sn.2)) (by kernel_rfl) (by kernel_rfl) (by kernel_rfl) (by kernel_rfl) ((calm_then calm_body)) (⟨bO43_0.1, (BoxAt.ext (hX17.trans hX40) bO13_1).1⟩) (fun ops Q X49 hb hL hR hK => ?_)
  replace hE := hE.trans hb; replace hX40 := hX40.trans hb; replace bO43_0 := BoxAt.ext hb bO43_0; replace bO43_1 := BoxAt.ext hb bO43_1; have hs50 := hb.size; clear hb
  have hS51 := And.intro (bO43_0.1) ((BoxAt.ext (hX17.trans hX40) bO13_1).1)
  refine wT 0 (.pointer (some ⟨O43, 0, none⟩)) hR (fun w _ => by kernel_rfl) (hS51) ?_
  refine wT 1 (.int .i64 s.1) hR (fun w hS => ex_load rfl (by kernel_rfl) (ld3 (hS.1))) (hS51) ?_
  refine wT 2 (.pointer (some ⟨O43, 0, none⟩)) hR (fun w _ => by kernel_rfl) (hS51) ?_
  refine wT 3 (.int .i64 s.1) hR (fun w hS => ex_load rfl (by kernel_rfl) (ld3 (hS.1))) (hS51) ?_
  refine wT 4 (.int .i64 (s.1 + 1 : Int)) hR (fun w _ => ev_wrap (by kernel_rfl) (by omega) (by omega)) (hS51) ?_
  refine wT 5 (.pointer (some ⟨O13, 1, none⟩)) hR (fun w _ => by kernel_rfl) (hS51) ?_
  refine wT 6 (.int .i64 sn.2) hR (fun w hS => ex_load rfl (by kernel_rfl) (ld3 (hS.2))) (hS51) ?_
  refine wd_two 7 10 hR rfl rfl (by kernel_rfl) (by kernel_rfl) (by kernel_rfl) (by kernel_rfl) ?_ ?_
  ·
   refine sn_call (f := 13) (args := #[.int .i64 sn.2, .int .i64 80]) (by kernel_rfl) ((pickL_n _ (80) _ isn2 (by omega) (by omega)).mono ?_)
   rintro e w' ⟨pk53, rfl, pk53l, -, rfl⟩
   refine ⟨_, rfl, hS51, ?_⟩
   refine wT 8 (.int .i64 ((s.1 + 1) + (((pk53 : Nat) : Int)) : Int)) hR (fun w _ => ev_wrap (by kernel_rfl) (by omega) (by omega)) (hS51) ?_
   refine wT 9 (.agg #[.int .i64 s.1, .int .i64 ((s.1 + 1) + (((pk53 : Nat) : Int)) : Int)]) hR (fun w _ => by kernel_rfl) (hS51) ?_
   refine wS 10 hR (sn_new (us := #[.int .i64 0, .int .i64 0]) (t := 26) (by kernel_rfl) ?_)
   intro O54 X55 hzO54 hyO54 hb hbx; have ⟨bO54_0, bO54_1⟩ := bx2 hbx; clear hbx
   replace hE := hE.trans hb; replace hX40 := hX40.trans hb; replace bO43_0 := BoxAt.ext hb bO43_0; replace bO43_1 := BoxAt.ext hb bO43_1; have hs56 := hb.size; clear hb; have lt57 := bO54_0.lt
   have hS58 := And.intro (bO43_0.1) ((BoxAt.ext (hX17.trans hX40) bO13_1).1)
   refine ⟨hS58, ?_⟩
   refine wS 11 hR (sn_set2 (O := O54) (j := 0) (v := .int .i64 s.1) (v' := .int .i64 ((s.1 + 1) + (((pk53 : Nat) : Int)) : Int)) (ex_store (p := .pointer (some ⟨O54, 0, none⟩)) (v := .agg #[.int .i64 s.1, .int .i64 ((s.1 + 1) + (((pk53 : Nat) : Int)) : Int)]) rfl (by kernel_rfl) (by kernel_rfl) (st26 bO54_0.1 bO54_0.2 bO54_1.1 bO54_1.2)) bO54_0 bO54_1 ?_)
   intro X59 ho hv0 hv1 hk; replace hE := ho.ext hE (T (T hs3 (T hs7 (T hs11 (T hs15 (T hs19 (T hs24 (T hs28 (T hs31 (T hs33 (T hs36 (T hs39 (T hs42 (T hs45 (T hs48 hs50)))))))))))))) (Nat.le_of_eq hzO54)); replace hX40 := ho.ext hX40 (T (T hs42 (T hs45 (T hs48 hs50))) (Nat.le_of_eq hzO54))
   have q9 := fun (j : Nat) (v : Value) (h : BoxAt _ O43 j v) => ho.box (Nat.ne_of_gt (Nat.lt_of_lt_of_le lt46 (T (T hs48 hs50) (Nat.le_of_eq hzO54)))) h
   replace bO43_0 := q9 _ _ bO43_0; replace bO43_1 := q9 _ _ bO43_1; clear q9; have hs60 : X55.heap.size ≤ X59.heap.size := Nat.le_of_eq ho.size.symm; clear ho hk bO54_0 bO54_1; have bO54_0 := hv0; clear hv0; have bO54_1 := hv1; clear hv1
   have hS61 := And.intro (bO43_0.1) ((BoxAt.ext (hX17.trans hX40) bO13_1).1)
   refine ⟨hS61, ?_⟩
   refine wd_end hL hR hK (by kernel_rfl) ?_
   exact qw_leaf hJ [3, 4, 6, 7, 10, 11, 14, 19, 20, 21, 22, 23] (ws' := [(3, .int .i64 look), (4, .int .i64 late), (6, .int .i64 mn), (7, .int .i64 wd), (10, .pointer (some ⟨O5, 0, none⟩)), (11, .pointer (some ⟨O9, 0, none⟩)), (14, .pointer (some ⟨O13, 0, none⟩)), (19, .bool true), (20, .pointer (some ⟨O26, 0, none⟩)), (21, .pointer (some ⟨O34, 0, none⟩)), (22, .pointer (some ⟨O43, 0, none⟩)), (23, .pointer (some ⟨O54, 0, none⟩))]) (by kernel_rfl) ⟨pk53, O54, rfl, hE, hX40, bO43_0, bO43_1, pk53l, bO54_0, bO54_1, (T hs50 (T hs56 hs60)), (T hs50 (Nat.le_of_eq hzO54))⟩
  ·
   refine sn_new (us := #[.int .i64 0, .int .i64 0]) (t := 26) (by kernel_rfl) ?_
   intro O62 X63 hzO62 hyO62 hb hbx; have ⟨bO62_0, bO62_1⟩ := bx2 hbx; clear hbx
   replace hE := hE.trans hb; replace hX40 := hX40.trans hb; replace bO43_0 := BoxAt.ext hb bO43_0; replace bO43_1 := BoxAt.ext hb bO43_1; have hs64 := hb.size; clear hb; have lt65 := bO62_0.lt
   have hS66 := And.intro (bO43_0.1) ((BoxAt.ext (hX17.trans hX40) bO13_1).1)
   refine ⟨hS66, ?_⟩
   refine wS 7 hR (sn_call (f := 13) (args := #[.int .i64 sn.2, .int .i64 80]) (by kernel_rfl) ((pickL_n _ (80) _ isn2 (by omega) (by omega)).mono ?_))
   rintro e w' ⟨pk68, rfl, pk68l, -, rfl⟩
   refine ⟨_, rfl, hS66, ?_⟩
   refine wT 8 (.int .i64 ((s.1 + 1) + (((pk68 : Nat) : Int)) : Int)) hR (fun w _ => ev_wrap (by kernel_rfl) (by omega) (by omega)) (hS66) ?_
   refine wT 9 (.agg #[.int .i64 s.1, .int .i64 ((s.1 + 1) + (((pk68 : Nat) : Int)) : Int)]) hR (fun w _ => by kernel_rfl) (hS66) ?_
   refine wS 11 hR (sn_set2 (O := O62) (j := 0) (v := .int .i64 s.1) (v' := .int .i64 ((s.1 + 1) + (((pk68 : Nat) : Int)) : Int)) (ex_store (p := .pointer (some ⟨O62, 0, none⟩)) (v := .agg #[.int .i64 s.1, .int .i64 ((s.1 + 1) + (((pk68 : Nat) : Int)) : Int)]) rfl (by kernel_rfl) (by kernel_rfl) (st26 bO62_0.1 bO62_0.2 bO62_1.1 bO62_1.2)) bO62_0 bO62_1 ?_)
   intro X69 ho hv0 hv1 hk; replace hE := ho.ext hE (T (T hs3 (T hs7 (T hs11 (T hs15 (T hs19 (T hs24 (T hs28 (T hs31 (T hs33 (T hs36 (T hs39 (T hs42 (T hs45 (T hs48 hs50)))))))))))))) (Nat.le_of_eq hzO62)); replace hX40 := ho.ext hX40 (T (T hs42 (T hs45 (T hs48 hs50))) (Nat.le_of_eq hzO62))
   have q9 := fun (j : Nat) (v : Value) (h : BoxAt _ O43 j v) => ho.box (Nat.ne_of_gt (Nat.lt_of_lt_of_le lt46 (T (T hs48 hs50) (Nat.le_of_eq hzO62)))) h
   replace bO43_0 := q9 _ _ bO43_0; replace bO43_1 := q9 _ _ bO43_1; clear q9; have hs70 : X63.heap.size ≤ X69.heap.size := Nat.le_of_eq ho.size.symm; clear ho hk bO62_0 bO62_1; have bO62_0 := hv0; clear hv0; have bO62_1 := hv1; clear hv1
   have hS71 := And.intro (bO43_0.1) ((BoxAt.ext (hX17.trans hX40) bO13_1).1)
   refine ⟨hS71, ?_⟩
   refine wd_end hL hR hK (by kernel_rfl) ?_
   exact qw_leaf hJ [3, 4, 6, 7, 10, 11, 14, 19, 20, 21, 22, 23] (ws' := [(3, .int .i64 look), (4, .int .i64 late), (6, .int .i64 mn), (7, .int .i64 wd), (10, .pointer (some ⟨O5, 0, none⟩)), (11, .pointer (some ⟨O9, 0, none⟩)), (14, .pointer (some ⟨O13, 0, none⟩)), (19, .bool true), (20, .pointer (some ⟨O26, 0, none⟩)), (21, .pointer (some ⟨O34, 0, none⟩)), (22, .pointer (some ⟨O43, 0, none⟩)), (23, .pointer (some ⟨O62, 0, none⟩))]) (by kernel_rfl) ⟨pk68, O62, rfl, hE, hX40, bO43_0, bO43_1, pk68l, bO62_0, bO62_1, (T hs50 (T hs64 hs70)), (T hs50 (Nat.le_of_eq hzO62))⟩
 ·
  clear bO43_0 bO43_1 hE hX40
  rintro L ws Y72 ⟨pk53, O54, rfl, hE, hX40, bO43_0, bO43_1, pk53l, bO54_0, bO54_1, hn73, hn74⟩
  have lt75 := bO54_0.lt; refine qw_then ?_; refine cw_seq ?_; refine cw_seq ?_; have hX76 : Ext Y72 Y72 := Ext.refl _; refine cw_plain ?_
  refine pU (.agg #[.int .i64 o.p, .int .i64 o.f, .int .i64 o.lo, .int .i64 o.hi, .int .i64 o.nd, .int .i64 o.tn, .int .i64 o.sl]) (ex_load rfl (by kernel_rfl) (ld24 ((BoxAt.ext (hX40.trans hX76) bO34_0).1) ((BoxAt.ext (hX40.trans hX76) bO34_1).1) ((BoxAt.ext (hX40.trans hX76) bO34_2).1) ((BoxAt.ext (hX40.trans hX76) bO34_3).1) ((BoxAt.ext (hX40.trans hX76) bO34_4).1) ((BoxAt.ext (hX40.trans hX76) bO34_5).1) ((BoxAt.ext (hX40.trans hX76) bO34_6).1))) ?_
  have hY77 := hX17.trans hX40
  refine pU (.agg #[.int .i64 ra.p, .int .i64 ra.f, .int .i64 ra.lo, .int .i64 ra.hi, .int .i64 ra.nd, .int .i64 ra.tn, .int .i64 ra.sl]) (ex_load rfl (by kernel_rfl) (ld24 ((BoxAt.ext (hY77.trans hX76) bO5_0).1) ((BoxAt.ext (hY77.trans hX76) bO5_1).1) ((BoxAt.ext (hY77.trans hX76) bO5_2).1) ((BoxAt.ext (hY77.trans hX76) bO5_3).1) ((BoxAt.ext (hY77.trans hX76) bO5_4).1) ((BoxAt.ext (hY77.trans hX76) bO5_5).1) ((BoxAt.ext (hY77.trans hX76) bO5_6).1))) ?_
  refine pS (sn_newS (us := #[.int .i64 o.p, .int .i64 o.f, .int .i64 o.lo, .int .i64 o.hi, .int .i64 o.nd, .int .i64 o.tn, .int .i64 o.sl, .int .i64 ra.p, .int .i64 ra.f, .int .i64 ra.lo, .int .i64 ra.hi, .int .i64 ra.nd, .int .i64 ra.tn, .int .i64 ra.sl]) (t := 24) (k := 2) (c := 2) (by kernel_rfl) ?_)
  intro O78 X79 hzO78 hyO78 hb hbx; have ⟨bO78_0, bO78_1, bO78_2, bO78_3, bO78_4, bO78_5, bO78_6, bO78_7, bO78_8, bO78_9, bO78_10, bO78_11, bO78_12, bO78_13⟩ := bx14 hbx; clear hbx
  replace hE := hE.trans hb; replace hX76 := hX76.trans hb; have hs80 := hb.size; clear hb; have lt81 := bO78_0.lt; refine pT (.int .i64 2) ?_; refine pT (.int .i64 0) ?_; refine pl_nil ?_; refine qw_then ?_; refine cC13 3 4 6 7 11 14 19 20 22 23 87 88 89 (fun L => ?_)
  refine cw_block ?_
  have hX82 : Ext X79 X79 := Ext.refl _
  have hY84 := hX40.trans hX76
  have hY85 := hX17.trans hY84
  have bO1_t83 := (BoxAt.ext (hY85.trans hX82) bO1_0)
  have bO1_t86 := (BoxAt.ext (hY85.trans hX82) bO1_1)
  have bO1_t87 := (BoxAt.ext (hY85.trans hX82) bO1_2)
  have bO1_t88 := (BoxAt.ext (hY85.trans hX82) bO1_3)
  have bO1_t89 := (BoxAt.ext (hY85.trans hX82) bO1_4)
  have bO1_t90 := (BoxAt.ext (hY85.trans hX82) bO1_5)
  have bO1_t91 := (BoxAt.ext (hY85.trans hX82) bO1_6)
  have bO5_t92 := (BoxAt.ext (hY85.trans hX82) bO5_0)
  have bO5_t93 := (BoxAt.ext (hY85.trans hX82) bO5_1)
  have bO5_t94 := (BoxAt.ext (hY85.trans hX82) bO5_2)
  have bO5_t95 := (BoxAt.ext (hY85.trans hX82) bO5_3)
  have bO5_t96 := (BoxAt.ext (hY85.trans hX82) bO5_4)
  have bO5_t97 := (BoxAt.ext (hY85.trans hX82) bO5_5)
  have bO5_t98 := (BoxAt.ext (hY85.trans hX82) bO5_6)
  have bO9_t99 := (BoxAt.ext (hY85.trans hX82) bO9_0)
  have bO9_t100 := (BoxAt.ext (hY85.trans hX82) bO9_1)
  have bO13_t101 := (BoxAt.ext (hY85.trans hX82) bO13_0)
  have bO13_t102 := (BoxAt.ext (hY85.trans hX82) bO13_1)
  have hrt103 := (hr22.ext (hY84.trans hX82))
  have bO26_t104 := (BoxAt.ext (hY84.trans hX82) bO26_0)
  have bO34_t105 := (BoxAt.ext (hY84.trans hX82) bO34_0)
  have bO34_t106 := (BoxAt.ext (hY84.trans hX82) bO34_1)
  have bO34_t107 := (BoxAt.ext (hY84.trans hX82) bO34_2)
  have bO34_t108 := (BoxAt.ext (hY84.trans hX82) bO34_3)
  have bO34_t109 := (BoxAt.ext (hY84.trans hX82) bO34_4)
  have bO34_t110 := (BoxAt.ext (hY84.trans hX82) bO34_5)
  have bO34_t111 := (BoxAt.ext (hY84.trans hX82) bO34_6)
  have bO43_t112 := (BoxAt.ext (hX76.trans hX82) bO43_0)
  have bO43_t113 := (BoxAt.ext (hX76.trans hX82) bO43_1)
  have bO54_t114 := (BoxAt.ext (hX76.trans hX82) bO54_0)
  have bO54_t115 := (BoxAt.ext (hX76.trans hX82) bO54_1)
  have bO78_t116 := bO78_0
  have bO78_t117 := bO78_1
  have bO78_t118 := bO78_2
  have bO78_t119 := bO78_3
  have bO78_t120 := bO78_4
  have bO78_t121 := bO78_5
  have bO78_t122 := bO78_6
  have bO78_t123 := bO78_7
  have bO78_t124 := bO78_8
  have bO78_t125 := bO78_9
  have bO78_t126 := bO78_10
  have bO78_t127 := bO78_11
  have bO78_t128 := bO78_12
  have bO78_t129 := bO78_13
  refine cw_loop [3, 4, 6, 7, 11, 14, 19, 20, 22, 23, 87, 88, 89] (fun ws' wr m => ∃ i1 : Nat, ∃ zt : Int, ws' = [(3, .int .i64 look), (4, .int .i64 late), (6, .int .i64 mn), (7, .int .i64 wd), (11, .pointer (some ⟨O9, 0, none⟩)), (14, .pointer (some ⟨O13, 0, none⟩)), (19, .bool true), (20, .pointer (some ⟨O26, 0, none⟩)), (22, .pointer (some ⟨O43, 0, none⟩)), (23, .pointer (some ⟨O54, 0, none⟩)), (87, .slice (some ⟨O78, 0, none⟩) 2 2), (88, .int .i64 2), (89, .int .i64 (((i1 : Nat) : Int) : Int))] ∧ m = 2 - i1 ∧ X79.heap.size ≤ wr.heap.size ∧ Ext w wr ∧ BoxAt wr O1 0 (.int .i64 x0) ∧ BoxAt wr O1 1 (.int .i64 x1) ∧ BoxAt wr O1 2 (.int .i64 x2) ∧ BoxAt wr O1 3 (.int .i64 x3) ∧ BoxAt wr O1 4 (.int .i64 x4) ∧ BoxAt wr O1 5 (.int .i64 x5) ∧ BoxAt wr O1 6 (.int .i64 x6) ∧ BoxAt wr O5 0 (.int .i64 ra.p) ∧ BoxAt wr O5 1 (.int .i64 ra.f) ∧ BoxAt wr O5 2 (.int .i64 ra.lo) ∧ BoxAt wr O5 3 (.int .i64 ra.hi) ∧ BoxAt wr O5 4 (.int .i64 ra.nd) ∧ BoxAt wr O5 5 (.int .i64 ra.tn) ∧ BoxAt wr O5 6 (.int .i64 ra.sl) ∧ BoxAt wr O9 0 (.int .i64 sh.1) ∧ BoxAt wr O9 1 (.int .i64 sh.2) ∧ BoxAt wr O13 0 (.int .i64 sn.1) ∧ RowsAt wr B20 LA ∧ BoxAt wr O26 0 (.slice (some ⟨B20, 0, none⟩) 24 24) ∧ BoxAt wr O34 0 (.int .i64 o.p) ∧ BoxAt wr O34 1 (.int .i64 o.f) ∧ BoxAt wr O34 2 (.int .i64 o.lo) ∧ BoxAt wr O34 3 (.int .i64 o.hi) ∧ BoxAt wr O34 4 (.int .i64 o.nd) ∧ BoxAt wr O34 5 (.int .i64 o.tn) ∧ BoxAt wr O34 6 (.int .i64 o.sl) ∧ BoxAt wr O43 0 (.int .i64 s.1) ∧ BoxAt wr O43 1 (.int .i64 s.2) ∧ BoxAt wr O54 0 (.int .i64 s.1) ∧ BoxAt wr O54 1 (.int .i64 ((s.1 + 1) + (((pk53 : Nat) : Int)) : Int)) ∧ BoxAt wr O78 0 (.int .i64 o.p) ∧ BoxAt wr O78 1 (.int .i64 o.f) ∧ BoxAt wr O78 2 (.int .i64 o.lo) ∧ BoxAt wr O78 3 (.int .i64 o.hi) ∧ BoxAt wr O78 4 (.int .i64 o.nd) ∧ BoxAt wr O78 5 (.int .i64 o.tn) ∧ BoxAt wr O78 6 (.int .i64 o.sl) ∧ BoxAt wr O78 7 (.int .i64 ra.p) ∧ BoxAt wr O78 8 (.int .i64 ra.f) ∧ BoxAt wr O78 9 (.int .i64 ra.lo) ∧ BoxAt wr O78 10 (.int .i64 ra.hi) ∧ BoxAt wr O78 11 (.int .i64 ra.nd) ∧ BoxAt wr O78 12 (.int .i64 ra.tn) ∧ BoxAt wr O78 13 (.int .i64 ra.sl) ∧ BoxAt wr O13 1 (.int .i64 zt) ∧ i1 ≤ 2) (ws0 := [(3, .int .i64 look), (4, .int .i64 late), (6, .int .i64 mn), (7, .int .i64 wd), (11, .pointer (some ⟨O9, 0, none⟩)), (14, .pointer (some ⟨O13, 0, none⟩)), (19, .bool true), (20, .pointer (some ⟨O26, 0, none⟩)), (22, .pointer (some ⟨O43, 0, none⟩)), (23, .pointer (some ⟨O54, 0, none⟩)), (87, .slice (some ⟨O78, 0, none⟩) 2 2), (88, .int .i64 2), (89, .int .i64 0)]) (by kernel_rfl) _ ⟨0, sn.2, rfl, rfl, Nat.le_refl _, hE, bO1_t83, bO1_t86, bO1_t87, bO1_t88, bO1_t89, bO1_t90, bO1_t91, bO5_t92, bO5_t93, bO5_t94, bO5_t95, bO5_t96, bO5_t97, bO5_t98, bO9_t99, bO9_t100, bO13_t101, hrt103, bO26_t104, bO34_t105, bO34_t106, bO34_t107, bO34_t108, bO34_t109, bO34_t110, bO34_t111, bO43_t112, bO43_t113, bO54_t114, bO54_t115, bO78_t116, bO78_t117, bO78_t118, bO78_t119, bO78_t120, bO78_t121, bO78_t122, bO78_t123, bO78_t124, bO78_t125, bO78_t126, bO78_t127, bO78_t128, bO78_t129, bO13_t102, by omega⟩ ?_
  clear bO1_t83 bO1_t86 bO1_t87 bO1_t88 bO1_t89 bO1_t90 bO1_t91 bO5_t92 bO5_t93 bO5_t94 bO5_t95 bO5_t96 bO5_t97 bO5_t98 bO9_t99 bO9_t100 bO13_t101 bO13_t102 hrt103 bO26_t104 bO34_t105 bO34_t106 bO34_t107 bO34_t108 bO34_t109 bO34_t110 bO34_t111 bO43_t112 bO43_t113 bO54_t114 bO54_t115 bO78_t116 bO78_t117 bO78_t118 bO78_t119 bO78_t120 bO78_t121 bO78_t122 bO78_t123 bO78_t124 bO78_t125 bO78_t126 bO78_t127 bO78_t128 bO78_t129 hE
  rintro m132 L ws w131 ⟨i1, zt, rfl, rfl, hs130, hE, bO1_t83, bO1_t86, bO1_t87, bO1_t88, bO1_t89, bO1_t90, bO1_t91, bO5_t92, bO5_t93, bO5_t94, bO5_t95, bO5_t96, bO5_t97, bO5_t98, bO9_t99, bO9_t100, bO13_t101, hrt103, bO26_t104, bO34_t105, bO34_t106, bO34_t107, bO34_t108, bO34_t109, bO34_t110, bO34_t111, bO43_t112, bO43_t113, bO54_t114, bO54_t115, bO78_t116, bO78_t117, bO78_t118, bO78_t119, bO78_t120, bO78_t121, bO78_t122, bO78_t123, bO78_t124, bO78_t125, bO78_t126, bO78_t127, bO78_t128, bO78_t129, hzt, hi1⟩
  by_cases hlt : i1 < 2
  ·
   have hli1 := hlt; clear hlt
   obtain ⟨p, hel133, hel134, hel135, hel136, hel137, hel138, hel139⟩ : ∃ p : Orb, BoxAt w131 O78 (i1 * 7) (.int .i64 p.p) ∧ BoxAt w131 O78 (i1 * 7 + 1) (.int .i64 p.f) ∧ BoxAt w131 O78 (i1 * 7 + 2) (.int .i64 p.lo) ∧ BoxAt w131 O78 (i1 * 7 + 3) (.int .i64 p.hi) ∧ BoxAt w131 O78 (i1 * 7 + 4) (.int .i64 p.nd) ∧ BoxAt w131 O78 (i1 * 7 + 5) (.int .i64 p.tn) ∧ BoxAt w131 O78 (i1 * 7 + 6) (.int .i64 p.sl) := by
    rcases (show i1 = 0 ∨ i1 = 1 by omega) with rfl | rfl
    · exact ⟨o, bO78_t116, bO78_t117, bO78_t118, bO78_t119, bO78_t120, bO78_t121, bO78_t122⟩
    · exact ⟨ra, bO78_t123, bO78_t124, bO78_t125, bO78_t126, bO78_t127, bO78_t128, bO78_t129⟩
   refine cw_seq ?_; have hX140 : Ext w131 w131 := Ext.refl _; refine cw_plain ?_
   refine pU (.bool true) (ev_dec (show _ = Result.ok (Next.value (Value.bool (decide ((((i1 : Nat) : Int) : Int) < (2 : Int))))) _ from by kernel_rfl) (by omega)) ?_
   refine pl_nil ?_; refine qw_then ?_; refine cw_seq ?_
   refine cw_t (by kernel_rfl) ?_
   refine cw_skip ?_
   refine qw_then ?_; refine cw_seq ?_
   refine cw_block ?_
   refine cw_seq ?_; refine cw_plain ?_
   refine pU (.pointer (some ⟨O78, i1 * 7, none⟩)) (ex_index (p := .slice (some ⟨O78, 0, none⟩) 2 2) (i := .int .i64 ((i1 : Nat) : Int)) rfl (by kernel_rfl) (by kernel_rfl) (ix37z (k := i1) (by omega))) ?_
   refine pU (.agg #[.int .i64 p.p, .int .i64 p.f, .int .i64 p.lo, .int .i64 p.hi, .int .i64 p.nd, .int .i64 p.tn, .int .i64 p.sl]) (ex_load rfl (by kernel_rfl) (ld24 (hel133.1) (hel134.1) (hel135.1) (hel136.1) (hel137.1) (hel138.1) (hel139.1))) ?_
   refine pS (sn_new (us := #[.int .i64 0, .int .i64 0, .int .i64 0, .int .i64 0, .int .i64 0, .int .i64 0, .int .i64 0]) (t := 24) (by kernel_rfl) ?_)
   intro O141 X142 hzO141 hyO141 hb hbx; have ⟨bO141_0, bO141_1, bO141_2, bO141_3, bO141_4, bO141_5, bO141_6⟩ := bx7 hbx; clear hbx
   replace hE := hE.trans hb; replace hX140 := hX140.trans hb; have hs143 := hb.size; clear hb; have lt144 := bO141_0.lt
   refine pP (sn_setK7 (O := O141) (j := 0) (v0 := .int .i64 p.p) (v1 := .int .i64 p.f) (v2 := .int .i64 p.lo) (v3 := .int .i64 p.hi) (v4 := .int .i64 p.nd) (v5 := .int .i64 p.tn) (v6 := .int .i64 p.sl) (ex_store (p := .pointer (some ⟨O141, 0, none⟩)) (v := .agg #[.int .i64 p.p, .int .i64 p.f, .int .i64 p.lo, .int .i64 p.hi, .int .i64 p.nd, .int .i64 p.tn, .int .i64 p.sl]) rfl (by kernel_rfl) (by kernel_rfl) (st24 bO141_0.1 bO141_0.2 bO141_1.1 bO141_1.2 bO141_2.1 bO141_2.2 bO141_3.1 bO141_3.2 bO141_4.1 bO141_4.2 bO141_5.1 bO141_5.2 bO141_6.1 bO141_6.2)) bO141_0 bO141_1 bO141_2 bO141_3 bO141_4 bO141_5 bO141_6 ?_)
   intro X145 ho hv0 hv1 hv2 hv3 hv4 hv5 hv6 hk; replace hE := ho.ext hE (T (T hs3 (T hs7 (T hs11 (T hs15 (T hs19 (T hs24 (T hs28 (T hs31 (T hs33 (T hs36 (T hs39 (T hs42 (T hs45 (T hs48 (T hn73 (T hs80 hs130)))))))))))))))) (Nat.le_of_eq hzO141)); replace hX140 := ho.ext hX140 (Nat.le_of_eq hzO141); have hs146 : X142.heap.size ≤ X145.heap.size := Nat.le_of_eq ho.size.symm; clear ho hk bO141_0 bO141_1 bO141_2 bO141_3 bO141_4 bO141_5 bO141_6; have bO141_0 := hv0; clear hv0; have bO141_1 := hv1; clear hv1; have bO141_2 := hv2; clear hv2; have bO141_3 := hv3; clear hv3; have bO141_4 := hv4; clear hv4; have bO141_5 := hv5; clear hv5; have bO141_6 := hv6; clear hv6; refine pl_nil ?_; refine qw_then ?_; refine cC14 3 4 6 7 11 14 19 20 22 23 25 87 88 89 (fun L => ?_); refine cw_seq ?_; refine cw_seq ?_; have hX147 : Ext X145 X145 := Ext.refl _; refine cw_plain ?_
   refine pU (.agg #[.int .i64 sh.1, .int .i64 sh.2]) (ex_load rfl (by kernel_rfl) (ld26 ((BoxAt.ext (hX140.trans hX147) bO9_t99).1) ((BoxAt.ext (hX140.trans hX147) bO9_t100).1))) ?_
   refine pU (.agg #[.int .i64 s.1, .int .i64 s.2]) (ex_load rfl (by kernel_rfl) (ld26 ((BoxAt.ext (hX140.trans hX147) bO43_t112).1) ((BoxAt.ext (hX140.trans hX147) bO43_t113).1))) ?_
   refine pS (sn_newS (us := #[.int .i64 sh.1, .int .i64 sh.2, .int .i64 s.1, .int .i64 s.2]) (t := 26) (k := 2) (c := 2) (by kernel_rfl) ?_)
   intro O148 X149 hzO148 hyO148 hb hbx; have ⟨bO148_0, bO148_1, bO148_2, bO148_3⟩ := bx4 hbx; clear hbx
   replace hE := hE.trans hb; replace hX147 := hX147.trans hb; have hs150 := hb.size; clear hb; have lt151 := bO148_0.lt; refine pT (.int .i64 2) ?_; refine pT (.int .i64 0) ?_; refine pl_nil ?_; refine qw_then ?_; refine cC17 3 4 6 7 11 14 19 20 22 23 25 87 88 89 95 96 97 (fun L => ?_)
   refine cw_block ?_
   have hX152 : Ext X149 X149 := Ext.refl _
   refine cw_loop [3, 4, 6, 7, 11, 14, 19, 20, 22, 23, 25, 87, 88, 89, 95, 96, 97] (fun ws' wr m => ∃ i2 : Nat, ws' = [(3, .int .i64 look), (4, .int .i64 late), (6, .int .i64 mn), (7, .int .i64 wd), (11, .pointer (some ⟨O9, 0, none⟩)), (14, .pointer (some ⟨O13, 0, none⟩)), (19, .bool true), (20, .pointer (some ⟨O26, 0, none⟩)), (22, .pointer (some ⟨O43, 0, none⟩)), (23, .pointer (some ⟨O54, 0, none⟩)), (25, .pointer (some ⟨O141, 0, none⟩)), (87, .slice (some ⟨O78, 0, none⟩) 2 2), (88, .int .i64 2), (89, .int .i64 (((i1 : Nat) : Int) : Int)), (95, .slice (some ⟨O148, 0, none⟩) 2 2), (96, .int .i64 2), (97, .int .i64 (((i2 : Nat) : Int) : Int))] ∧ m = 2 - i2 ∧ X149.heap.size ≤ wr.heap.size ∧ Ext w wr ∧ Ext X149 wr ∧ i2 ≤ 2) (ws0 := [(3, .int .i64 look), (4, .int .i64 late), (6, .int .i64 mn), (7, .int .i64 wd), (11, .pointer (some ⟨O9, 0, none⟩)), (14, .pointer (some ⟨O13, 0, none⟩)), (19, .bool true), (20, .pointer (some ⟨O26, 0, none⟩)), (22, .pointer (some ⟨O43, 0, none⟩)), (23, .pointer (some ⟨O54, 0, none⟩)), (25, .pointer (some ⟨O141, 0, none⟩)), (87, .slice (some ⟨O78, 0, none⟩) 2 2), (88, .int .i64 2), (89, .int .i64 (((i1 : Nat) : Int) : Int)), (95, .slice (some ⟨O148, 0, none⟩) 2 2), (96, .int .i64 2), (97, .int .i64 0)]) (by kernel_rfl) _ ⟨0, rfl, rfl, Nat.le_refl _, hE, hX152, by omega⟩ ?_
   clear hE hX152
   rintro m155 L ws w154 ⟨i2, rfl, rfl, hs153, hE, hX152, hi2⟩
   by_cases hlt : i2 < 2
   ·
    have hli2 := hlt; clear hlt
    obtain ⟨t, hel156, hel157⟩ : ∃ t : Int × Int, BoxAt w154 O148 (i2 * 2) (.int .i64 t.1) ∧ BoxAt w154 O148 (i2 * 2 + 1) (.int .i64 t.2) := by
     rcases (show i2 = 0 ∨ i2 = 1 by omega) with rfl | rfl
     · exact ⟨(sh.1, sh.2), (BoxAt.ext hX152 bO148_0), (BoxAt.ext hX152 bO148_1)⟩
     · exact ⟨(s.1, s.2), (BoxAt.ext hX152 bO148_2), (BoxAt.ext hX152 bO148_3)⟩
    refine cw_seq ?_; refine cw_plain ?_
    refine pU (.bool true) (ev_dec (show _ = Result.ok (Next.value (Value.bool (decide ((((i2 : Nat) : Int) : Int) < (2 : Int))))) _ from by kernel_rfl) (by omega)) ?_
    refine pl_nil ?_; refine qw_then ?_; refine cC18 3 4 6 7 11 14 19 20 22 23 25 87 88 89 95 96 97 98 (fun L => ?_); refine cw_seq ?_
    refine cw_t (by kernel_rfl) ?_
    refine cw_skip ?_
    refine qw_then ?_; refine cC17 3 4 6 7 11 14 19 20 22 23 25 87 88 89 95 96 97 (fun L => ?_); refine cw_seq ?_; have hX158 : Ext w154 w154 := Ext.refl _
    refine cw_cut ((calm_then (calm_then (calm_block (calm_then (calm_block (calm_then (calm_then (calm_block (calm_then calm_body)))))))))) (fun ws' wr => ws' = [(3, .int .i64 look), (4, .int .i64 late), (6, .int .i64 mn), (7, .int .i64 wd), (11, .pointer (some ⟨O9, 0, none⟩)), (14, .pointer (some ⟨O13, 0, none⟩)), (19, .bool true), (20, .pointer (some ⟨O26, 0, none⟩)), (22, .pointer (some ⟨O43, 0, none⟩)), (23, .pointer (some ⟨O54, 0, none⟩)), (25, .pointer (some ⟨O141, 0, none⟩)), (87, .slice (some ⟨O78, 0, none⟩) 2 2), (88, .int .i64 2), (89, .int .i64 (((i1 : Nat) : Int) : Int)), (95, .slice (some ⟨O148, 0, none⟩) 2 2), (96, .int .i64 2), (97, .int .i64 (((i2 : Nat) : Int) : Int))] ∧ w154.heap.size ≤ wr.heap.size ∧ Ext w wr ∧ Ext w154 wr) (fun Q hcalm160 hJ => ?_) ?_
    ·
     refine cw_block ?_
     refine cw_seq ?_; refine cw_plain ?_
     refine pU (.pointer (some ⟨O148, i2 * 2, none⟩)) (ex_index (p := .slice (some ⟨O148, 0, none⟩) 2 2) (i := .int .i64 ((i2 : Nat) : Int)) rfl (by kernel_rfl) (by kernel_rfl) (ix38z (k := i2) (by omega))) ?_
     refine pU (.agg #[.int .i64 t.1, .int .i64 t.2]) (ex_load rfl (by kernel_rfl) (ld26 (hel156.1) (hel157.1))) ?_
     refine pS (sn_new (us := #[.int .i64 0, .int .i64 0]) (t := 26) (by kernel_rfl) ?_)
     intro O161 X162 hzO161 hyO161 hb hbx; have ⟨bO161_0, bO161_1⟩ := bx2 hbx; clear hbx
     replace hE := hE.trans hb; replace hX158 := hX158.trans hb; have hs163 := hb.size; clear hb; have lt164 := bO161_0.lt
     refine pP (sn_set2 (O := O161) (j := 0) (v := .int .i64 t.1) (v' := .int .i64 t.2) (ex_store (p := .pointer (some ⟨O161, 0, none⟩)) (v := .agg #[.int .i64 t.1, .int .i64 t.2]) rfl (by kernel_rfl) (by kernel_rfl) (st26 bO161_0.1 bO161_0.2 bO161_1.1 bO161_1.2)) bO161_0 bO161_1 ?_)
     intro X165 ho hv0 hv1 hk; replace hE := ho.ext hE (T (T hs3 (T hs7 (T hs11 (T hs15 (T hs19 (T hs24 (T hs28 (T hs31 (T hs33 (T hs36 (T hs39 (T hs42 (T hs45 (T hs48 (T hn73 (T hs80 (T hs130 (T hs143 (T hs146 (T hs150 hs153)))))))))))))))))))) (Nat.le_of_eq hzO161)); replace hX158 := ho.ext hX158 (Nat.le_of_eq hzO161); have hs166 : X162.heap.size ≤ X165.heap.size := Nat.le_of_eq ho.size.symm; clear ho hk bO161_0 bO161_1; have bO161_0 := hv0; clear hv0; have bO161_1 := hv1; clear hv1; refine pl_nil ?_; refine qw_then ?_; refine cC18 3 4 6 7 11 14 19 20 22 23 25 27 87 88 89 95 96 97 (fun L => ?_); refine cw_seq ?_; refine cw_plain ?_; refine pT (.int .i64 look) ?_; refine pT (.int .i64 look) ?_
     refine pS (sn_call (f := 13) (args := #[.int .i64 look, .int .i64 9]) (by kernel_rfl) ((pickL_n _ (9) _ ilook (by omega) (by omega)).mono ?_))
     rintro e w' ⟨pk168, rfl, pk168l, -, rfl⟩
     refine ⟨_, rfl, ?_⟩
     refine pU (.int .i64 ((((pk168 : Nat) : Int)) - 4 : Int)) (ev_wrap (by kernel_rfl) (by omega) (by omega)) ?_
     refine pS (sn_newS (us := #[.int .i64 look, .int .i64 ((((pk168 : Nat) : Int)) - 4 : Int)]) (t := 3) (k := 2) (c := 2) (by kernel_rfl) ?_)
     intro O169 X170 hzO169 hyO169 hb hbx; have ⟨bO169_0, bO169_1⟩ := bx2 hbx; clear hbx
     replace hE := hE.trans hb; replace hX158 := hX158.trans hb; replace bO161_0 := BoxAt.ext hb bO161_0; replace bO161_1 := BoxAt.ext hb bO161_1; have hs171 := hb.size; clear hb; have lt172 := bO169_0.lt; refine pT (.int .i64 2) ?_; refine pT (.int .i64 0) ?_; refine pl_nil ?_; refine qw_then ?_; refine cC21 3 4 6 7 11 14 19 20 22 23 25 27 87 88 89 95 96 97 105 106 107 (fun L => ?_)
     refine cw_block ?_
     have hX173 : Ext X170 X170 := Ext.refl _
     refine cw_loop [3, 4, 6, 7, 11, 14, 19, 20, 22, 23, 25, 27, 87, 88, 89, 95, 96, 97, 105, 106, 107] (fun ws' wr m => ∃ i3 : Nat, ws' = [(3, .int .i64 look), (4, .int .i64 late), (6, .int .i64 mn), (7, .int .i64 wd), (11, .pointer (some ⟨O9, 0, none⟩)), (14, .pointer (some ⟨O13, 0, none⟩)), (19, .bool true), (20, .pointer (some ⟨O26, 0, none⟩)), (22, .pointer (some ⟨O43, 0, none⟩)), (23, .pointer (some ⟨O54, 0, none⟩)), (25, .pointer (some ⟨O141, 0, none⟩)), (27, .pointer (some ⟨O161, 0, none⟩)), (87, .slice (some ⟨O78, 0, none⟩) 2 2), (88, .int .i64 2), (89, .int .i64 (((i1 : Nat) : Int) : Int)), (95, .slice (some ⟨O148, 0, none⟩) 2 2), (96, .int .i64 2), (97, .int .i64 (((i2 : Nat) : Int) : Int)), (105, .slice (some ⟨O169, 0, none⟩) 2 2), (106, .int .i64 2), (107, .int .i64 (((i3 : Nat) : Int) : Int))] ∧ m = 2 - i3 ∧ X170.heap.size ≤ wr.heap.size ∧ Ext w wr ∧ Ext X170 wr ∧ i3 ≤ 2) (ws0 := [(3, .int .i64 look), (4, .int .i64 late), (6, .int .i64 mn), (7, .int .i64 wd), (11, .pointer (some ⟨O9, 0, none⟩)), (14, .pointer (some ⟨O13, 0, none⟩)), (19, .bool true), (20, .pointer (some ⟨O26, 0, none⟩)), (22, .pointer (some ⟨O43, 0, none⟩)), (23, .pointer (some ⟨O54, 0, none⟩)), (25, .pointer (some ⟨O141, 0, none⟩)), (27, .pointer (some ⟨O161, 0, none⟩)), (87, .slice (some ⟨O78, 0, none⟩) 2 2), (88, .int .i64 2), (89, .int .i64 (((i1 : Nat) : Int) : Int)), (95, .slice (some ⟨O148, 0, none⟩) 2 2), (96, .int .i64 2), (97, .int .i64 (((i2 : Nat) : Int) : Int)), (105, .slice (some ⟨O169, 0, none⟩) 2 2), (106, .int .i64 2), (107, .int .i64 0)]) (by kernel_rfl) _ ⟨0, rfl, rfl, Nat.le_refl _, hE, hX173, by omega⟩ ?_
     clear hE hX173
     rintro m176 L ws w175 ⟨i3, rfl, rfl, hs174, hE, hX173, hi3⟩
     by_cases hlt : i3 < 2
     ·
      have hli3 := hlt; clear hlt
      obtain ⟨l9, hel177⟩ : ∃ l9 : Int, BoxAt w175 O169 (i3) (.int .i64 l9) := by
       rcases (show i3 = 0 ∨ i3 = 1 by omega) with rfl | rfl
       · exact ⟨look, (BoxAt.ext hX173 bO169_0)⟩
       · exact ⟨(((pk168 : Nat) : Int)) - 4, (BoxAt.ext hX173 bO169_1)⟩
      refine cw_seq ?_; refine cw_plain ?_
      refine pU (.bool true) (ev_dec (show _ = Result.ok (Next.value (Value.bool (decide ((((i3 : Nat) : Int) : Int) < (2 : Int))))) _ from by kernel_rfl) (by omega)) ?_
      refine pl_nil ?_; refine qw_then ?_; refine cC22 3 4 6 7 11 14 19 20 22 23 25 27 87 88 89 95 96 97 105 106 107 108 (fun L => ?_); refine cw_seq ?_
      refine cw_t (by kernel_rfl) ?_
      refine cw_skip ?_
      refine qw_then ?_; refine cC21 3 4 6 7 11 14 19 20 22 23 25 27 87 88 89 95 96 97 105 106 107 (fun L => ?_); refine cw_seq ?_; have hX178 : Ext w175 w175 := Ext.refl _
      refine cw_cut ((calm_then (calm_then (calm_block (calm_block hcalm160))))) (fun ws' wr => ws' = [(3, .int .i64 look), (4, .int .i64 late), (6, .int .i64 mn), (7, .int .i64 wd), (11, .pointer (some ⟨O9, 0, none⟩)), (14, .pointer (some ⟨O13, 0, none⟩)), (19, .bool true), (20, .pointer (some ⟨O26, 0, none⟩)), (22, .pointer (some ⟨O43, 0, none⟩)), (23, .pointer (some ⟨O54, 0, none⟩)), (25, .pointer (some ⟨O141, 0, none⟩)), (27, .pointer (some ⟨O161, 0, none⟩)), (87, .slice (some ⟨O78, 0, none⟩) 2 2), (88, .int .i64 2), (89, .int .i64 (((i1 : Nat) : Int) : Int)), (95, .slice (some ⟨O148, 0, none⟩) 2 2), (96, .int .i64 2), (97, .int .i64 (((i2 : Nat) : Int) : Int)), (105, .slice (some ⟨O169, 0, none⟩) 2 2), (106, .int .i64 2), (107, .int .i64 (((i3 : Nat) : Int) : Int))] ∧ w175.heap.size ≤ wr.heap.size ∧ Ext w wr ∧ Ext w175 wr) (fun Q hcalm180 hJ => ?_) ?_
      ·
       refine cw_block ?_
       refine cw_seq ?_; refine cw_plain ?_
       refine pU (.pointer (some ⟨O169, i3, none⟩)) (ex_index (p := .slice (some ⟨O169, 0, none⟩) 2 2) (i := .int .i64 ((i3 : Nat) : Int)) rfl (by kernel_rfl) (by kernel_rfl) (ix29z (k := i3) (by omega))) ?_
       refine pU (.int .i64 l9) (ex_load rfl (by kernel_rfl) (ld3 (hel177.1))) ?_
       refine pT (.int .i64 l9) ?_; refine pl_nil ?_; refine qw_then ?_; refine cC22 3 4 6 7 11 14 19 20 22 23 25 27 29 87 88 89 95 96 97 105 106 107 (fun L => ?_); refine cw_seq ?_; refine cw_seq ?_; refine cw_plain ?_; refine pT (.int .i64 late) ?_; refine pT (.int .i64 late) ?_
       refine pS (sn_call (f := 13) (args := #[.int .i64 late, .int .i64 7]) (by kernel_rfl) ((pickL_n _ (7) _ ilate (by omega) (by omega)).mono ?_))
       rintro e w' ⟨pk182, rfl, pk182l, -, rfl⟩
       refine ⟨_, rfl, ?_⟩
       refine pU (.int .i64 ((((pk182 : Nat) : Int)) - 3 : Int)) (ev_wrap (by kernel_rfl) (by omega) (by omega)) ?_
       refine pS (sn_newS (us := #[.int .i64 late, .int .i64 ((((pk182 : Nat) : Int)) - 3 : Int)]) (t := 3) (k := 2) (c := 2) (by kernel_rfl) ?_)
       intro O183 X184 hzO183 hyO183 hb hbx; have ⟨bO183_0, bO183_1⟩ := bx2 hbx; clear hbx
       replace hE := hE.trans hb; replace hX178 := hX178.trans hb; have hs185 := hb.size; clear hb; have lt186 := bO183_0.lt; refine pT (.int .i64 2) ?_; refine pT (.int .i64 0) ?_; refine pl_nil ?_; refine qw_then ?_; refine cC25 3 4 6 7 11 14 19 20 22 23 25 27 29 87 88 89 95 96 97 105 106 107 115 116 117 (fun L => ?_)
       refine cw_block ?_
       have hX187 : Ext X184 X184 := Ext.refl _
       refine cw_loop [3, 4, 6, 7, 11, 14, 19, 20, 22, 23, 25, 27, 29, 87, 88, 89, 95, 96, 97, 105, 106, 107, 115, 116, 117] (fun ws' wr m => ∃ i4 : Nat, ws' = [(3, .int .i64 look), (4, .int .i64 late), (6, .int .i64 mn), (7, .int .i64 wd), (11, .pointer (some ⟨O9, 0, none⟩)), (14, .pointer (some ⟨O13, 0, none⟩)), (19, .bool true), (20, .pointer (some ⟨O26, 0, none⟩)), (22, .pointer (some ⟨O43, 0, none⟩)), (23, .pointer (some ⟨O54, 0, none⟩)), (25, .pointer (some ⟨O141, 0, none⟩)), (27, .pointer (some ⟨O161, 0, none⟩)), (29, .int .i64 l9), (87, .slice (some ⟨O78, 0, none⟩) 2 2), (88, .int .i64 2), (89, .int .i64 (((i1 : Nat) : Int) : Int)), (95, .slice (some ⟨O148, 0, none⟩) 2 2), (96, .int .i64 2), (97, .int .i64 (((i2 : Nat) : Int) : Int)), (105, .slice (some ⟨O169, 0, none⟩) 2 2), (106, .int .i64 2), (107, .int .i64 (((i3 : Nat) : Int) : Int)), (115, .slice (some ⟨O183, 0, none⟩) 2 2), (116, .int .i64 2), (117, .int .i64 (((i4 : Nat) : Int) : Int))] ∧ m = 2 - i4 ∧ X184.heap.size ≤ wr.heap.size ∧ Ext w wr ∧ Ext X184 wr ∧ i4 ≤ 2) (ws0 := [(3, .int .i64 look), (4, .int .i64 late), (6, .int .i64 mn), (7, .int .i64 wd), (11, .pointer (some ⟨O9, 0, none⟩)), (14, .pointer (some ⟨O13, 0, none⟩)), (19, .bool true), (20, .pointer (some ⟨O26, 0, none⟩)), (22, .pointer (some ⟨O43, 0, none⟩)), (23, .pointer (some ⟨O54, 0, none⟩)), (25, .pointer (some ⟨O141, 0, none⟩)), (27, .pointer (some ⟨O161, 0, none⟩)), (29, .int .i64 l9), (87, .slice (some ⟨O78, 0, none⟩) 2 2), (88, .int .i64 2), (89, .int .i64 (((i1 : Nat) : Int) : Int)), (95, .slice (some ⟨O148, 0, none⟩) 2 2), (96, .int .i64 2), (97, .int .i64 (((i2 : Nat) : Int) : Int)), (105, .slice (some ⟨O169, 0, none⟩) 2 2), (106, .int .i64 2), (107, .int .i64 (((i3 : Nat) : Int) : Int)), (115, .slice (some ⟨O183, 0, none⟩) 2 2), (116, .int .i64 2), (117, .int .i64 0)]) (by kernel_rfl) _ ⟨0, rfl, rfl, Nat.le_refl _, hE, hX187, by omega⟩ ?_
       clear hE hX187
       rintro m190 L ws w189 ⟨i4, rfl, rfl, hs188, hE, hX187, hi4⟩
       by_cases hlt : i4 < 2
       ·
        have hli4 := hlt; clear hlt
        obtain ⟨d9, hel191⟩ : ∃ d9 : Int, BoxAt w189 O183 (i4) (.int .i64 d9) := by
         rcases (show i4 = 0 ∨ i4 = 1 by omega) with rfl | rfl
         · exact ⟨late, (BoxAt.ext hX187 bO183_0)⟩
         · exact ⟨(((pk182 : Nat) : Int)) - 3, (BoxAt.ext hX187 bO183_1)⟩
        refine cw_seq ?_; refine cw_plain ?_
        refine pU (.bool true) (ev_dec (show _ = Result.ok (Next.value (Value.bool (decide ((((i4 : Nat) : Int) : Int) < (2 : Int))))) _ from by kernel_rfl) (by omega)) ?_
        refine pl_nil ?_; refine qw_then ?_; refine cC26 3 4 6 7 11 14 19 20 22 23 25 27 29 87 88 89 95 96 97 105 106 107 115 116 117 118 (fun L => ?_); refine cw_seq ?_
        refine cw_t (by kernel_rfl) ?_
        refine cw_skip ?_
        refine qw_then ?_; refine cC25 3 4 6 7 11 14 19 20 22 23 25 27 29 87 88 89 95 96 97 105 106 107 115 116 117 (fun L => ?_); refine cw_seq ?_; have hX192 : Ext w189 w189 := Ext.refl _
        refine cw_cut ((calm_then (calm_then (calm_block (calm_then (calm_block hcalm180)))))) (fun ws' wr => ws' = [(3, .int .i64 look), (4, .int .i64 late), (6, .int .i64 mn), (7, .int .i64 wd), (11, .pointer (some ⟨O9, 0, none⟩)), (14, .pointer (some ⟨O13, 0, none⟩)), (19, .bool true), (20, .pointer (some ⟨O26, 0, none⟩)), (22, .pointer (some ⟨O43, 0, none⟩)), (23, .pointer (some ⟨O54, 0, none⟩)), (25, .pointer (some ⟨O141, 0, none⟩)), (27, .pointer (some ⟨O161, 0, none⟩)), (29, .int .i64 l9), (87, .slice (some ⟨O78, 0, none⟩) 2 2), (88, .int .i64 2), (89, .int .i64 (((i1 : Nat) : Int) : Int)), (95, .slice (some ⟨O148, 0, none⟩) 2 2), (96, .int .i64 2), (97, .int .i64 (((i2 : Nat) : Int) : Int)), (105, .slice (some ⟨O169, 0, none⟩) 2 2), (106, .int .i64 2), (107, .int .i64 (((i3 : Nat) : Int) : Int)), (115, .slice (some ⟨O183, 0, none⟩) 2 2), (116, .int .i64 2), (117, .int .i64 (((i4 : Nat) : Int) : Int))] ∧ w189.heap.size ≤ wr.heap.size ∧ Ext w wr ∧ Ext w189 wr) (fun Q hcalm194 hJ => ?_) ?_
        ·
         refine cw_block ?_
         refine cw_seq ?_; refine cw_plain ?_
         refine pU (.pointer (some ⟨O183, i4, none⟩)) (ex_index (p := .slice (some ⟨O183, 0, none⟩) 2 2) (i := .int .i64 ((i4 : Nat) : Int)) rfl (by kernel_rfl) (by kernel_rfl) (ix29z (k := i4) (by omega))) ?_
         refine pU (.int .i64 d9) (ex_load rfl (by kernel_rfl) (ld3 (hel191.1))) ?_
         refine pT (.int .i64 d9) ?_; refine pl_nil ?_; refine qw_then ?_; refine cC26 3 4 6 7 11 14 19 20 22 23 25 27 29 31 87 88 89 95 96 97 105 106 107 115 116 117 (fun L => ?_); refine cw_seq ?_; refine cw_plain ?_
         have hY195 := hX178.trans hX187
         have hY196 := hX173.trans hY195
         have hY197 := hX158.trans hY196
         have hY198 := hX152.trans hY197
         have hY199 := hX147.trans hY198
         refine pU (.agg #[.int .i64 p.p, .int .i64 p.f, .int .i64 p.lo, .int .i64 p.hi, .int .i64 p.nd, .int .i64 p.tn, .int .i64 p.sl]) (ex_load rfl (by kernel_rfl) (ld24 ((BoxAt.ext (hY199.trans hX192) bO141_0).1) ((BoxAt.ext (hY199.trans hX192) bO141_1).1) ((BoxAt.ext (hY199.trans hX192) bO141_2).1) ((BoxAt.ext (hY199.trans hX192) bO141_3).1) ((BoxAt.ext (hY199.trans hX192) bO141_4).1) ((BoxAt.ext (hY199.trans hX192) bO141_5).1) ((BoxAt.ext (hY199.trans hX192) bO141_6).1))) ?_
         refine pU (.agg #[.int .i64 t.1, .int .i64 t.2]) (ex_load rfl (by kernel_rfl) (ld26 ((BoxAt.ext (hY196.trans hX192) bO161_0).1) ((BoxAt.ext (hY196.trans hX192) bO161_1).1))) ?_
         refine pT (.int .i64 l9) ?_; refine pT (.int .i64 d9) ?_
         refine pS (sn_call (f := 14) (args := #[.agg #[.int .i64 p.p, .int .i64 p.f, .int .i64 p.lo, .int .i64 p.hi, .int .i64 p.nd, .int .i64 p.tn, .int .i64 p.sl], .agg #[.int .i64 t.1, .int .i64 t.2], .int .i64 l9, .int .i64 d9]) (by kernel_rfl) ((Shown_u p t l9 d9 _).mono ?_))
         rintro e w204 ⟨aa200, na201, ka202, rfl, ha203, hb⟩
         replace hE := hE.trans hb; replace hX192 := hX192.trans hb; have hs205 := hb.size; clear hb; have hX206 : Ext w204 w204 := Ext.refl _
         refine ⟨_, rfl, ?_⟩
         refine pT (.tuple #[.agg #[.slice aa200 na201 ka202], .int .i64 (shownE p t l9 d9 : Int)]) ?_; refine pT (.agg #[.slice aa200 na201 ka202]) ?_; refine pT (.int .i64 (shownE p t l9 d9 : Int)) ?_
         refine pS (sn_new (us := #[.slice none 0 0]) (t := 31) (by kernel_rfl) ?_)
         intro O207 X208 hzO207 hyO207 hb hbx; have bO207_0 := bx1 hbx; clear hbx
         replace hE := hE.trans hb; replace hX206 := hX206.trans hb; have hs209 := hb.size; clear hb; have lt210 := bO207_0.lt
         refine pP (sn_set (O := O207) (j := 0) (v := .slice aa200 na201 ka202) (ex_store (p := .pointer (some ⟨O207, 0, none⟩)) (v := .agg #[.slice aa200 na201 ka202]) rfl (by kernel_rfl) (by kernel_rfl) (st31 bO207_0.1 bO207_0.2)) bO207_0 ?_)
         intro X211 ho hv0 hk; replace hE := ho.ext hE (T (T hs3 (T hs7 (T hs11 (T hs15 (T hs19 (T hs24 (T hs28 (T hs31 (T hs33 (T hs36 (T hs39 (T hs42 (T hs45 (T hs48 (T hn73 (T hs80 (T hs130 (T hs143 (T hs146 (T hs150 (T hs153 (T hs163 (T hs166 (T hs171 (T hs174 (T hs185 (T hs188 hs205))))))))))))))))))))))))))) (Nat.le_of_eq hzO207)); replace hX206 := ho.ext hX206 (Nat.le_of_eq hzO207); have hs212 : X208.heap.size ≤ X211.heap.size := Nat.le_of_eq ho.size.symm; clear ho hk bO207_0; have bO207_0 := hv0; clear hv0; refine pT (.int .i64 (shownE p t l9 d9 : Int)) ?_; refine pl_nil ?_; refine qw_then ?_; refine cC28 3 4 6 7 11 14 19 20 22 23 25 27 29 31 32 33 87 88 89 95 96 97 105 106 107 115 116 117 (fun L => ?_); refine cw_seq ?_; refine cw_plain ?_
         have hY213 := hX187.trans hX192
         have hY214 := hX178.trans hY213
         have hY215 := hX173.trans hY214
         have hY216 := hX158.trans hY215
         have hY217 := hX152.trans hY216
         have hY218 := hX147.trans hY217
         refine pU (.agg #[.int .i64 p.p, .int .i64 p.f, .int .i64 p.lo, .int .i64 p.hi, .int .i64 p.nd, .int .i64 p.tn, .int .i64 p.sl]) (ex_load rfl (by kernel_rfl) (ld24 ((BoxAt.ext (hY218.trans hX206) bO141_0).1) ((BoxAt.ext (hY218.trans hX206) bO141_1).1) ((BoxAt.ext (hY218.trans hX206) bO141_2).1) ((BoxAt.ext (hY218.trans hX206) bO141_3).1) ((BoxAt.ext (hY218.trans hX206) bO141_4).1) ((BoxAt.ext (hY218.trans hX206) bO141_5).1) ((BoxAt.ext (hY218.trans hX206) bO141_6).1))) ?_
         refine pU (.agg #[.int .i64 t.1, .int .i64 t.2]) (ex_load rfl (by kernel_rfl) (ld26 ((BoxAt.ext (hY215.trans hX206) bO161_0).1) ((BoxAt.ext (hY215.trans hX206) bO161_1).1))) ?_
         refine pT (.int .i64 l9) ?_; refine pT (.int .i64 d9) ?_
         refine pS (sn_call (f := 15) (args := #[.agg #[.int .i64 p.p, .int .i64 p.f, .int .i64 p.lo, .int .i64 p.hi, .int .i64 p.nd, .int .i64 p.tn, .int .i64 p.sl], .agg #[.int .i64 t.1, .int .i64 t.2], .int .i64 l9, .int .i64 d9]) (by kernel_rfl) ((rShown_u p t l9 d9 _).mono ?_))
         rintro e w223 ⟨aa219, na220, ka221, rfl, ha222, hb⟩
         replace hE := hE.trans hb; replace hX206 := hX206.trans hb; replace bO207_0 := BoxAt.ext hb bO207_0; have hs224 := hb.size; clear hb; have hX225 : Ext w223 w223 := Ext.refl _
         refine ⟨_, rfl, ?_⟩
         refine pT (.tuple #[.agg #[.slice aa219 na220 ka221], .int .i64 (shownE p t l9 d9 : Int)]) ?_; refine pT (.agg #[.slice aa219 na220 ka221]) ?_; refine pT (.int .i64 (shownE p t l9 d9 : Int)) ?_
         refine pS (sn_new (us := #[.slice none 0 0]) (t := 31) (by kernel_rfl) ?_)
         intro O226 X227 hzO226 hyO226 hb hbx; have bO226_0 := bx1 hbx; clear hbx
         replace hE := hE.trans hb; replace hX225 := hX225.trans hb; replace bO207_0 := BoxAt.ext hb bO207_0; have hs228 := hb.size; clear hb; have lt229 := bO226_0.lt
         refine pP (sn_set (O := O226) (j := 0) (v := .slice aa219 na220 ka221) (ex_store (p := .pointer (some ⟨O226, 0, none⟩)) (v := .agg #[.slice aa219 na220 ka221]) rfl (by kernel_rfl) (by kernel_rfl) (st31 bO226_0.1 bO226_0.2)) bO226_0 ?_)
         intro X230 ho hv0 hk; replace hE := ho.ext hE (T (T hs3 (T hs7 (T hs11 (T hs15 (T hs19 (T hs24 (T hs28 (T hs31 (T hs33 (T hs36 (T hs39 (T hs42 (T hs45 (T hs48 (T hn73 (T hs80 (T hs130 (T hs143 (T hs146 (T hs150 (T hs153 (T hs163 (T hs166 (T hs171 (T hs174 (T hs185 (T hs188 (T hs205 (T hs209 (T hs212 hs224)))))))))))))))))))))))))))))) (Nat.le_of_eq hzO226)); replace hX225 := ho.ext hX225 (Nat.le_of_eq hzO226); replace bO207_0 := ho.box (Nat.ne_of_gt (Nat.lt_of_lt_of_le lt210 (T (T hs212 hs224) (Nat.le_of_eq hzO226)))) bO207_0; have hs231 : X227.heap.size ≤ X230.heap.size := Nat.le_of_eq ho.size.symm; clear ho hk bO226_0; have bO226_0 := hv0; clear hv0; refine pT (.int .i64 (shownE p t l9 d9 : Int)) ?_; refine pl_nil ?_; refine qw_then ?_; refine cC29 3 4 6 7 11 14 19 20 22 23 25 27 29 32 33 34 35 87 88 89 95 96 97 105 106 107 115 116 117 (fun L => ?_); refine cw_seq ?_; refine cw_plain ?_; refine pT (.int .i64 (shownE p t l9 d9 : Int)) ?_; refine pT (.int .i64 (shownE p t l9 d9 : Int)) ?_
         refine pU (.bool false) (ev_nne (show _ = Result.ok (Next.value (Value.bool ((shownE p t l9 d9 : Int) != (shownE p t l9 d9 : Int)))) _ from by kernel_rfl) (rfl)) ?_
         refine pT (.bool false) ?_
         refine pU (.agg #[.slice aa200 na201 ka202]) (ex_load rfl (by kernel_rfl) (ld31 (bO207_0.1))) ?_
         refine pU (.agg #[.slice aa219 na220 ka221]) (ex_load rfl (by kernel_rfl) (ld31 (bO226_0.1))) ?_
         refine pS (sn_call (f := 16) (args := #[.agg #[.slice aa200 na201 ka202], .agg #[.slice aa219 na220 ka221]]) (by kernel_rfl) ((rSame_u _ _ _ ha203 (hX206.trans hX225) ha222 hX225).mono ?_))
         rintro e w232 ⟨rfl, hb⟩
         replace hE := hE.trans hb; replace hX225 := hX225.trans hb; replace bO207_0 := BoxAt.ext hb bO207_0; replace bO226_0 := BoxAt.ext hb bO226_0; have hs233 := hb.size; clear hb
         refine ⟨_, rfl, ?_⟩
         refine pT (.bool false) ?_; refine pT (.bool false) ?_; refine pl_nil ?_; refine qw_then ?_; refine cC26 3 4 6 7 11 14 19 20 22 23 25 27 29 87 88 89 95 96 97 105 106 107 115 116 117 145 (fun L => ?_)
         refine cw_f (by kernel_rfl) ?_
         refine cw_skip ?_
         refine qw_block ?_
         have hY234 := hX192.trans hX206
         exact qw_leaf hJ [3, 4, 6, 7, 11, 14, 19, 20, 22, 23, 25, 27, 29, 87, 88, 89, 95, 96, 97, 105, 106, 107, 115, 116, 117] (ws' := [(3, .int .i64 look), (4, .int .i64 late), (6, .int .i64 mn), (7, .int .i64 wd), (11, .pointer (some ⟨O9, 0, none⟩)), (14, .pointer (some ⟨O13, 0, none⟩)), (19, .bool true), (20, .pointer (some ⟨O26, 0, none⟩)), (22, .pointer (some ⟨O43, 0, none⟩)), (23, .pointer (some ⟨O54, 0, none⟩)), (25, .pointer (some ⟨O141, 0, none⟩)), (27, .pointer (some ⟨O161, 0, none⟩)), (29, .int .i64 l9), (87, .slice (some ⟨O78, 0, none⟩) 2 2), (88, .int .i64 2), (89, .int .i64 (((i1 : Nat) : Int) : Int)), (95, .slice (some ⟨O148, 0, none⟩) 2 2), (96, .int .i64 2), (97, .int .i64 (((i2 : Nat) : Int) : Int)), (105, .slice (some ⟨O169, 0, none⟩) 2 2), (106, .int .i64 2), (107, .int .i64 (((i3 : Nat) : Int) : Int)), (115, .slice (some ⟨O183, 0, none⟩) 2 2), (116, .int .i64 2), (117, .int .i64 (((i4 : Nat) : Int) : Int))]) (by kernel_rfl) ⟨rfl, (T hs205 (T hs209 (T hs212 (T hs224 (T hs228 (T hs231 hs233)))))), hE, (hY234.trans hX225)⟩
        ·
         clear hE hX192
         rintro L ws w235 ⟨rfl, hs193, hE, hX192⟩
         refine qw_then ?_; refine cC25 3 4 6 7 11 14 19 20 22 23 25 27 29 87 88 89 95 96 97 105 106 107 115 116 117 (fun L => ?_); refine cw_plain ?_
         refine pU (.int .i64 (((i4 + 1 : Nat) : Int) : Int)) (ev_wrap (by kernel_rfl) (by omega) (by omega)) ?_
         refine pT (.int .i64 (((i4 + 1 : Nat) : Int) : Int)) ?_; refine pl_nil ?_
         refine qw_round [3, 4, 6, 7, 11, 14, 19, 20, 22, 23, 25, 27, 29, 87, 88, 89, 95, 96, 97, 105, 106, 107, 115, 116, 117] (ws' := [(3, .int .i64 look), (4, .int .i64 late), (6, .int .i64 mn), (7, .int .i64 wd), (11, .pointer (some ⟨O9, 0, none⟩)), (14, .pointer (some ⟨O13, 0, none⟩)), (19, .bool true), (20, .pointer (some ⟨O26, 0, none⟩)), (22, .pointer (some ⟨O43, 0, none⟩)), (23, .pointer (some ⟨O54, 0, none⟩)), (25, .pointer (some ⟨O141, 0, none⟩)), (27, .pointer (some ⟨O161, 0, none⟩)), (29, .int .i64 l9), (87, .slice (some ⟨O78, 0, none⟩) 2 2), (88, .int .i64 2), (89, .int .i64 (((i1 : Nat) : Int) : Int)), (95, .slice (some ⟨O148, 0, none⟩) 2 2), (96, .int .i64 2), (97, .int .i64 (((i2 : Nat) : Int) : Int)), (105, .slice (some ⟨O169, 0, none⟩) 2 2), (106, .int .i64 2), (107, .int .i64 (((i3 : Nat) : Int) : Int)), (115, .slice (some ⟨O183, 0, none⟩) 2 2), (116, .int .i64 2), (117, .int .i64 (((i4 + 1 : Nat) : Int) : Int))]) (by kernel_rfl) _ ?_ ⟨(i4 + 1), rfl, rfl, (T hs188 hs193), hE, (hX187.trans hX192), by omega⟩
         omega
       ·
        refine cw_seq ?_; refine cw_plain ?_
        refine pU (.bool false) (ev_ndec (show _ = Result.ok (Next.value (Value.bool (decide ((((i4 : Nat) : Int) : Int) < (2 : Int))))) _ from by kernel_rfl) (by omega)) ?_
        refine pl_nil ?_; refine qw_then ?_; refine cC26 3 4 6 7 11 14 19 20 22 23 25 27 29 87 88 89 95 96 97 105 106 107 115 116 117 118 (fun L => ?_); refine cw_seq ?_
        refine cw_f (by kernel_rfl) ?_
        refine cw_exit ?_
        refine qw_then_exit ?_
        refine qw_then_exit ?_
        refine qw_block_out ?_
        refine qw_then ?_; refine cC22 3 4 6 7 11 14 19 20 22 23 25 27 29 87 88 89 95 96 97 105 106 107 (fun L => ?_); refine cw_seq ?_; refine cw_plain ?_
        have hY236 := hX173.trans hX178
        have hY237 := hX158.trans hY236
        have hY238 := hX152.trans hY237
        have hY239 := hX147.trans hY238
        refine pU (.agg #[.int .i64 p.p, .int .i64 p.f, .int .i64 p.lo, .int .i64 p.hi, .int .i64 p.nd, .int .i64 p.tn, .int .i64 p.sl]) (ex_load rfl (by kernel_rfl) (ld24 ((BoxAt.ext (hY239.trans hX187) bO141_0).1) ((BoxAt.ext (hY239.trans hX187) bO141_1).1) ((BoxAt.ext (hY239.trans hX187) bO141_2).1) ((BoxAt.ext (hY239.trans hX187) bO141_3).1) ((BoxAt.ext (hY239.trans hX187) bO141_4).1) ((BoxAt.ext (hY239.trans hX187) bO141_5).1) ((BoxAt.ext (hY239.trans hX187) bO141_6).1))) ?_
        refine pU (.agg #[.int .i64 t.1, .int .i64 t.2]) (ex_load rfl (by kernel_rfl) (ld26 ((BoxAt.ext (hY236.trans hX187) bO161_0).1) ((BoxAt.ext (hY236.trans hX187) bO161_1).1))) ?_
        refine pT (.int .i64 l9) ?_
        refine pS (sn_call (f := 17) (args := #[.agg #[.int .i64 p.p, .int .i64 p.f, .int .i64 p.lo, .int .i64 p.hi, .int .i64 p.nd, .int .i64 p.tn, .int .i64 p.sl], .agg #[.int .i64 t.1, .int .i64 t.2], .int .i64 l9]) (by kernel_rfl) ((Strip_u p t l9 _).mono ?_))
        rintro e w248 ⟨aa240, na241, ka242, aa244, na245, ka246, rfl, ha243, ha247, hb⟩
        replace hE := hE.trans hb; replace hX187 := hX187.trans hb; have hs249 := hb.size; clear hb; have hX250 : Ext w248 w248 := Ext.refl _
        refine ⟨_, rfl, ?_⟩
        refine pT (.tuple #[.agg #[.slice aa240 na241 ka242, .slice aa244 na245 ka246], .int .i64 (errU p t l9 : Int)]) ?_; refine pT (.agg #[.slice aa240 na241 ka242, .slice aa244 na245 ka246]) ?_; refine pT (.int .i64 (errU p t l9 : Int)) ?_
        refine pS (sn_new (us := #[.slice none 0 0, .slice none 0 0]) (t := 44) (by kernel_rfl) ?_)
        intro O251 X252 hzO251 hyO251 hb hbx; have ⟨bO251_0, bO251_1⟩ := bx2 hbx; clear hbx
        replace hE := hE.trans hb; replace hX250 := hX250.trans hb; have hs253 := hb.size; clear hb; have lt254 := bO251_0.lt
        refine pP (sn_set2 (O := O251) (j := 0) (v := .slice aa240 na241 ka242) (v' := .slice aa244 na245 ka246) (ex_store (p := .pointer (some ⟨O251, 0, none⟩)) (v := .agg #[.slice aa240 na241 ka242, .slice aa244 na245 ka246]) rfl (by kernel_rfl) (by kernel_rfl) (st44 bO251_0.1 bO251_0.2 bO251_1.1 bO251_1.2)) bO251_0 bO251_1 ?_)
        intro X255 ho hv0 hv1 hk; replace hE := ho.ext hE (T (T hs3 (T hs7 (T hs11 (T hs15 (T hs19 (T hs24 (T hs28 (T hs31 (T hs33 (T hs36 (T hs39 (T hs42 (T hs45 (T hs48 (T hn73 (T hs80 (T hs130 (T hs143 (T hs146 (T hs150 (T hs153 (T hs163 (T hs166 (T hs171 (T hs174 (T hs185 (T hs188 hs249))))))))))))))))))))))))))) (Nat.le_of_eq hzO251)); replace hX250 := ho.ext hX250 (Nat.le_of_eq hzO251); have hs256 : X252.heap.size ≤ X255.heap.size := Nat.le_of_eq ho.size.symm; clear ho hk bO251_0 bO251_1; have bO251_0 := hv0; clear hv0; have bO251_1 := hv1; clear hv1; refine pT (.int .i64 (errU p t l9 : Int)) ?_; refine pl_nil ?_; refine qw_then ?_; refine cC24 3 4 6 7 11 14 19 20 22 23 25 27 29 36 37 87 88 89 95 96 97 105 106 107 (fun L => ?_); refine cw_seq ?_; refine cw_plain ?_
        have hY257 := hX178.trans hX187
        have hY258 := hX173.trans hY257
        have hY259 := hX158.trans hY258
        have hY260 := hX152.trans hY259
        have hY261 := hX147.trans hY260
        refine pU (.agg #[.int .i64 p.p, .int .i64 p.f, .int .i64 p.lo, .int .i64 p.hi, .int .i64 p.nd, .int .i64 p.tn, .int .i64 p.sl]) (ex_load rfl (by kernel_rfl) (ld24 ((BoxAt.ext (hY261.trans hX250) bO141_0).1) ((BoxAt.ext (hY261.trans hX250) bO141_1).1) ((BoxAt.ext (hY261.trans hX250) bO141_2).1) ((BoxAt.ext (hY261.trans hX250) bO141_3).1) ((BoxAt.ext (hY261.trans hX250) bO141_4).1) ((BoxAt.ext (hY261.trans hX250) bO141_5).1) ((BoxAt.ext (hY261.trans hX250) bO141_6).1))) ?_
        refine pU (.agg #[.int .i64 t.1, .int .i64 t.2]) (ex_load rfl (by kernel_rfl) (ld26 ((BoxAt.ext (hY258.trans hX250) bO161_0).1) ((BoxAt.ext (hY258.trans hX250) bO161_1).1))) ?_
        refine pT (.int .i64 l9) ?_
        refine pS (sn_call (f := 18) (args := #[.agg #[.int .i64 p.p, .int .i64 p.f, .int .i64 p.lo, .int .i64 p.hi, .int .i64 p.nd, .int .i64 p.tn, .int .i64 p.sl], .agg #[.int .i64 t.1, .int .i64 t.2], .int .i64 l9]) (by kernel_rfl) ((rStrip_u p t l9 _).mono ?_))
        rintro e w270 ⟨aa262, na263, ka264, aa266, na267, ka268, rfl, ha265, ha269, hb⟩
        replace hE := hE.trans hb; replace hX250 := hX250.trans hb; replace bO251_0 := BoxAt.ext hb bO251_0; replace bO251_1 := BoxAt.ext hb bO251_1; have hs271 := hb.size; clear hb; have hX272 : Ext w270 w270 := Ext.refl _
        refine ⟨_, rfl, ?_⟩
        refine pT (.tuple #[.agg #[.slice aa262 na263 ka264, .slice aa266 na267 ka268], .int .i64 (errU p t l9 : Int)]) ?_; refine pT (.agg #[.slice aa262 na263 ka264, .slice aa266 na267 ka268]) ?_; refine pT (.int .i64 (errU p t l9 : Int)) ?_
        refine pS (sn_new (us := #[.slice none 0 0, .slice none 0 0]) (t := 44) (by kernel_rfl) ?_)
        intro O273 X274 hzO273 hyO273 hb hbx; have ⟨bO273_0, bO273_1⟩ := bx2 hbx; clear hbx
        replace hE := hE.trans hb; replace hX272 := hX272.trans hb; replace bO251_0 := BoxAt.ext hb bO251_0; replace bO251_1 := BoxAt.ext hb bO251_1; have hs275 := hb.size; clear hb; have lt276 := bO273_0.lt
        refine pP (sn_set2 (O := O273) (j := 0) (v := .slice aa262 na263 ka264) (v' := .slice aa266 na267 ka268) (ex_store (p := .pointer (some ⟨O273, 0, none⟩)) (v := .agg #[.slice aa262 na263 ka264, .slice aa266 na267 ka268]) rfl (by kernel_rfl) (by kernel_rfl) (st44 bO273_0.1 bO273_0.2 bO273_1.1 bO273_1.2)) bO273_0 bO273_1 ?_)
        intro X277 ho hv0 hv1 hk; replace hE := ho.ext hE (T (T hs3 (T hs7 (T hs11 (T hs15 (T hs19 (T hs24 (T hs28 (T hs31 (T hs33 (T hs36 (T hs39 (T hs42 (T hs45 (T hs48 (T hn73 (T hs80 (T hs130 (T hs143 (T hs146 (T hs150 (T hs153 (T hs163 (T hs166 (T hs171 (T hs174 (T hs185 (T hs188 (T hs249 (T hs253 (T hs256 hs271)))))))))))))))))))))))))))))) (Nat.le_of_eq hzO273)); replace hX272 := ho.ext hX272 (Nat.le_of_eq hzO273)
        have q9 := fun (j : Nat) (v : Value) (h : BoxAt _ O251 j v) => ho.box (Nat.ne_of_gt (Nat.lt_of_lt_of_le lt254 (T (T hs256 hs271) (Nat.le_of_eq hzO273)))) h
        replace bO251_0 := q9 _ _ bO251_0; replace bO251_1 := q9 _ _ bO251_1; clear q9; have hs278 : X274.heap.size ≤ X277.heap.size := Nat.le_of_eq ho.size.symm; clear ho hk bO273_0 bO273_1; have bO273_0 := hv0; clear hv0; have bO273_1 := hv1; clear hv1; refine pT (.int .i64 (errU p t l9 : Int)) ?_; refine pl_nil ?_; refine qw_then ?_; refine cC26 3 4 6 7 11 14 19 20 22 23 25 27 29 36 37 38 39 87 88 89 95 96 97 105 106 107 (fun L => ?_); refine cw_seq ?_; have hX279 : Ext X277 X277 := Ext.refl _; refine cw_plain ?_
        have hY280 := hX250.trans hX272
        have hY281 := hX187.trans hY280
        have hY282 := hX178.trans hY281
        have hY283 := hX173.trans hY282
        have hY284 := hX158.trans hY283
        have hY285 := hX152.trans hY284
        have hY286 := hX147.trans hY285
        refine pU (.agg #[.int .i64 p.p, .int .i64 p.f, .int .i64 p.lo, .int .i64 p.hi, .int .i64 p.nd, .int .i64 p.tn, .int .i64 p.sl]) (ex_load rfl (by kernel_rfl) (ld24 ((BoxAt.ext (hY286.trans hX279) bO141_0).1) ((BoxAt.ext (hY286.trans hX279) bO141_1).1) ((BoxAt.ext (hY286.trans hX279) bO141_2).1) ((BoxAt.ext (hY286.trans hX279) bO141_3).1) ((BoxAt.ext (hY286.trans hX279) bO141_4).1) ((BoxAt.ext (hY286.trans hX279) bO141_5).1) ((BoxAt.ext (hY286.trans hX279) bO141_6).1))) ?_
        refine pU (.agg #[.int .i64 t.1, .int .i64 t.2]) (ex_load rfl (by kernel_rfl) (ld26 ((BoxAt.ext (hY283.trans hX279) bO161_0).1) ((BoxAt.ext (hY283.trans hX279) bO161_1).1))) ?_
        refine pT (.int .i64 l9) ?_
        refine pS (sn_call (f := 19) (args := #[.agg #[.int .i64 p.p, .int .i64 p.f, .int .i64 p.lo, .int .i64 p.hi, .int .i64 p.nd, .int .i64 p.tn, .int .i64 p.sl], .agg #[.int .i64 t.1, .int .i64 t.2], .int .i64 l9]) (by kernel_rfl) ((Suns_u p t l9 _).mono ?_))
        rintro e w287 ⟨rfl, hb⟩
        replace hE := hE.trans hb; replace hX279 := hX279.trans hb; have hs288 := hb.size; clear hb
        refine ⟨_, rfl, ?_⟩
        refine pT (.tuple #[.int .i64 ((sunU p t l9).1 : Int), .int .i64 ((sunU p t l9).2 : Int), .int .i64 (errU p t l9 : Int)]) ?_; refine pT (.int .i64 ((sunU p t l9).1 : Int)) ?_; refine pT (.int .i64 ((sunU p t l9).2 : Int)) ?_; refine pT (.int .i64 (errU p t l9 : Int)) ?_; refine pT (.int .i64 ((sunU p t l9).1 : Int)) ?_; refine pT (.int .i64 ((sunU p t l9).2 : Int)) ?_; refine pT (.int .i64 (errU p t l9 : Int)) ?_; refine pl_nil ?_; refine qw_then ?_; refine cC29 3 4 6 7 11 14 19 20 22 23 25 27 29 36 37 38 39 40 41 42 87 88 89 95 96 97 105 106 107 (fun L => ?_); refine cw_seq ?_; refine cw_plain ?_
        refine pU (.agg #[.int .i64 p.p, .int .i64 p.f, .int .i64 p.lo, .int .i64 p.hi, .int .i64 p.nd, .int .i64 p.tn, .int .i64 p.sl]) (ex_load rfl (by kernel_rfl) (ld24 ((BoxAt.ext (hY286.trans hX279) bO141_0).1) ((BoxAt.ext (hY286.trans hX279) bO141_1).1) ((BoxAt.ext (hY286.trans hX279) bO141_2).1) ((BoxAt.ext (hY286.trans hX279) bO141_3).1) ((BoxAt.ext (hY286.trans hX279) bO141_4).1) ((BoxAt.ext (hY286.trans hX279) bO141_5).1) ((BoxAt.ext (hY286.trans hX279) bO141_6).1))) ?_
        refine pU (.agg #[.int .i64 t.1, .int .i64 t.2]) (ex_load rfl (by kernel_rfl) (ld26 ((BoxAt.ext (hY283.trans hX279) bO161_0).1) ((BoxAt.ext (hY283.trans hX279) bO161_1).1))) ?_
        refine pT (.int .i64 l9) ?_
        refine pS (sn_call (f := 20) (args := #[.agg #[.int .i64 p.p, .int .i64 p.f, .int .i64 p.lo, .int .i64 p.hi, .int .i64 p.nd, .int .i64 p.tn, .int .i64 p.sl], .agg #[.int .i64 t.1, .int .i64 t.2], .int .i64 l9]) (by kernel_rfl) ((rSuns_u p t l9 _).mono ?_))
        rintro e w289 ⟨rfl, hb⟩
        replace hE := hE.trans hb; replace hX279 := hX279.trans hb; have hs290 := hb.size; clear hb
        refine ⟨_, rfl, ?_⟩
        refine pT (.tuple #[.int .i64 ((sunU p t l9).1 : Int), .int .i64 ((sunU p t l9).2 : Int), .int .i64 (errU p t l9 : Int)]) ?_; refine pT (.int .i64 ((sunU p t l9).1 : Int)) ?_; refine pT (.int .i64 ((sunU p t l9).2 : Int)) ?_; refine pT (.int .i64 (errU p t l9 : Int)) ?_; refine pT (.int .i64 ((sunU p t l9).1 : Int)) ?_; refine pT (.int .i64 ((sunU p t l9).2 : Int)) ?_; refine pT (.int .i64 (errU p t l9 : Int)) ?_; refine pl_nil ?_; refine qw_then ?_; refine cC32 3 4 6 7 11 14 19 20 22 23 25 27 29 36 37 38 39 40 41 42 43 44 45 87 88 89 95 96 97 105 106 107 (fun L => ?_); refine cw_seq ?_
        have hY291 := hX140.trans hY286
        refine cw_draw [(some 177, [37], []), (some 178, [39], []), (some 179, [177, 178], [0, 1]), (some 180, [179], [2]), (some 181, [42, 180], [3]), (some 182, [45, 180], [3]), (some 183, [181, 182, 180], [4, 5, 3]), (some 184, [180, 183], [3, 6]), (some 185, [184], [7, 3]), (some 186, [36, 185], [8]), (some 187, [38, 185], [8]), (some 188, [186, 187, 185], [9, 10, 8, 8]), (some 189, [188, 185], [11, 8]), (some 190, [185, 189], [8, 12]), (some 191, [190], [13, 11]), (some 192, [40, 191], [14]), (some 193, [43, 191], [14]), (some 194, [192, 193, 191], [15, 16, 14]), (some 195, [191, 194], [14, 17]), (some 196, [195], [18, 14]), (some 197, [41, 196], [19]), (some 198, [44, 196], [19]), (some 199, [197, 198, 196], [20, 21, 19]), (some 200, [196, 199], [19, 22]), (some 201, [200], [23, 19]), (some 202, [25, 201], [24]), (some 203, [27, 201], [24]), (some 204, [29, 201], [24]), (some 205, [202, 203, 204, 201], [25, 26, 27, 24, 24]), (some 206, [25, 201], [24]), (some 207, [27, 201], [24]), (some 208, [29, 201], [24]), (some 209, [206, 207, 208, 201], [29, 30, 31, 28, 24]), (some 210, [205, 209, 201], [28, 32, 24]), (some 211, [201, 210], [24, 33]), (some 212, [211], [34, 32]), (some 213, [25, 212], [35]), (some 214, [27, 212], [35]), (some 215, [29, 212], [35]), (some 216, [20, 212], [35]), (some 217, [213, 214, 215, 216, 212], [36, 37, 38, 39, 35, 35]), (some 218, [25, 212], [35]), (some 219, [27, 212], [35]), (some 220, [29, 212], [35]), (some 221, [20, 212], [35]), (some 222, [218, 219, 220, 221, 212], [41, 42, 43, 44, 40, 35]), (some 223, [217, 222, 212], [40, 45, 35]), (some 224, [212, 223], [35, 46])] (fun w' => w'.cell? ⟨O251, 0, none⟩ = some (.slice aa240 na241 ka242) ∧ w'.cell? ⟨O251, 1, none⟩ = some (.slice aa244 na245 ka246) ∧ w'.cell? ⟨O273, 0, none⟩ = some (.slice aa262 na263 ka264) ∧ w'.cell? ⟨O273, 1, none⟩ = some (.slice aa266 na267 ka268) ∧ w'.cell? ⟨O141, 0, none⟩ = some (.int .i64 p.p) ∧ w'.cell? ⟨O141, 1, none⟩ = some (.int .i64 p.f) ∧ w'.cell? ⟨O141, 2, none⟩ = some (.int .i64 p.lo) ∧ w'.cell? ⟨O141, 3, none⟩ = some (.int .i64 p.hi) ∧ w'.cell? ⟨O141, 4, none⟩ = some (.int .i64 p.nd) ∧ w'.cell? ⟨O141, 5, none⟩ = some (.int .i64 p.tn) ∧ w'.cell? ⟨O141, 6, none⟩ = some (.int .i64 p.sl) ∧ w'.cell? ⟨O161, 0, none⟩ = some (.int .i64 t.1) ∧ w'.cell? ⟨O161, 1, none⟩ = some (.int .i64 t.2) ∧ w'.cell? ⟨O26, 0, none⟩ = some (.slice (some ⟨B20, 0, none⟩) 24 24)) (by kernel_rfl) (by kernel_rfl) (by kernel_rfl) (by kernel_rfl) ((calm_then (calm_block hcalm180))) (⟨(BoxAt.ext hX279 bO251_0).1, (BoxAt.ext hX279 bO251_1).1, (BoxAt.ext hX279 bO273_0).1, (BoxAt.ext hX279 bO273_1).1, (BoxAt.ext (hY286.trans hX279) bO141_0).1, (BoxAt.ext (hY286.trans hX279) bO141_1).1, (BoxAt.ext (hY286.trans hX279) bO141_2).1, (BoxAt.ext (hY286.trans hX279) bO141_3).1, (BoxAt.ext (hY286.trans hX279) bO141_4).1, (BoxAt.ext (hY286.trans hX279) bO141_5).1, (BoxAt.ext (hY286.trans hX279) bO141_6).1, (BoxAt.ext (hY283.trans hX279) bO161_0).1, (BoxAt.ext (hY283.trans hX279) bO161_1).1, (BoxAt.ext (hY291.trans hX279) bO26_t104).1⟩) (fun ops Q X292 hb hL hR hK => ?_)
        replace hE := hE.trans hb; replace hX279 := hX279.trans hb; have hs293 := hb.size; clear hb
        have hS294 := And.intro ((BoxAt.ext hX279 bO251_0).1) (And.intro ((BoxAt.ext hX279 bO251_1).1) (And.intro ((BoxAt.ext hX279 bO273_0).1) (And.intro ((BoxAt.ext hX279 bO273_1).1) (And.intro ((BoxAt.ext (hY286.trans hX279) bO141_0).1) (And.intro ((BoxAt.ext (hY286.trans hX279) bO141_1).1) (And.intro ((BoxAt.ext (hY286.trans hX279) bO141_2).1) (And.intro ((BoxAt.ext (hY286.trans hX279) bO141_3).1) (And.intro ((BoxAt.ext (hY286.trans hX279) bO141_4).1) (And.intro ((BoxAt.ext (hY286.trans hX279) bO141_5).1) (And.intro ((BoxAt.ext (hY286.trans hX279) bO141_6).1) (And.intro ((BoxAt.ext (hY283.trans hX279) bO161_0).1) (And.intro ((BoxAt.ext (hY283.trans hX279) bO161_1).1) ((BoxAt.ext (hY291.trans hX279) bO26_t104).1)))))))))))))
        refine wT 0 (.int .i64 (errU p t l9 : Int)) hR (fun w _ => by kernel_rfl) (hS294) ?_
        refine wT 1 (.int .i64 (errU p t l9 : Int)) hR (fun w _ => by kernel_rfl) (hS294) ?_
        refine wT 2 (.bool false) hR (fun w _ => ev_nne (show _ = Result.ok (Next.value (Value.bool ((errU p t l9 : Int) != (errU p t l9 : Int)))) _ from by kernel_rfl) (rfl)) (hS294) ?_
        refine wT 3 (.bool false) hR (fun w _ => by kernel_rfl) (hS294) ?_
        refine wT 4 (.int .i64 (errU p t l9 : Int)) hR (fun w _ => by kernel_rfl) (hS294) ?_
        refine wT 5 (.int .i64 (errU p t l9 : Int)) hR (fun w _ => by kernel_rfl) (hS294) ?_
        refine wT 6 (.bool false) hR (fun w _ => ev_nne (show _ = Result.ok (Next.value (Value.bool ((errU p t l9 : Int) != (errU p t l9 : Int)))) _ from by kernel_rfl) (rfl)) (hS294) ?_
        refine wT 7 (.bool false) hR (fun w _ => by kernel_rfl) (hS294) ?_
        refine wT 8 (.bool false) hR (fun w _ => by kernel_rfl) (hS294) ?_
        refine wT 9 (.agg #[.slice aa240 na241 ka242, .slice aa244 na245 ka246]) hR (fun w hS => ex_load rfl (by kernel_rfl) (ld44 (hS.1) (hS.2.1))) (hS294) ?_
        refine wT 10 (.agg #[.slice aa262 na263 ka264, .slice aa266 na267 ka268]) hR (fun w hS => ex_load rfl (by kernel_rfl) (ld44 (hS.2.2.1) (hS.2.2.2.1))) (hS294) ?_
        refine wS 11 hR (sn_call (f := 21) (args := #[.agg #[.slice aa240 na241 ka242, .slice aa244 na245 ka246], .agg #[.slice aa262 na263 ka264, .slice aa266 na267 ka268]]) (by kernel_rfl) ((SameStrip_u _ (ha243.ext (hY280.trans hX279)) (ha247.ext (hY280.trans hX279)) (ha265.ext (hX272.trans hX279)) (ha269.ext (hX272.trans hX279)) (Ext.refl _)).mono ?_))
        rintro e w295 ⟨rfl, hb⟩
        replace hE := hE.trans hb; replace hX279 := hX279.trans hb; have hs296 := hb.size; clear hb
        have hS297 := And.intro ((BoxAt.ext hX279 bO251_0).1) (And.intro ((BoxAt.ext hX279 bO251_1).1) (And.intro ((BoxAt.ext hX279 bO273_0).1) (And.intro ((BoxAt.ext hX279 bO273_1).1) (And.intro ((BoxAt.ext (hY286.trans hX279) bO141_0).1) (And.intro ((BoxAt.ext (hY286.trans hX279) bO141_1).1) (And.intro ((BoxAt.ext (hY286.trans hX279) bO141_2).1) (And.intro ((BoxAt.ext (hY286.trans hX279) bO141_3).1) (And.intro ((BoxAt.ext (hY286.trans hX279) bO141_4).1) (And.intro ((BoxAt.ext (hY286.trans hX279) bO141_5).1) (And.intro ((BoxAt.ext (hY286.trans hX279) bO141_6).1) (And.intro ((BoxAt.ext (hY283.trans hX279) bO161_0).1) (And.intro ((BoxAt.ext (hY283.trans hX279) bO161_1).1) ((BoxAt.ext (hY291.trans hX279) bO26_t104).1)))))))))))))
        refine ⟨_, rfl, hS297, ?_⟩
        refine wT 12 (.bool false) hR (fun w _ => by kernel_rfl) (hS297) ?_
        refine wT 13 (.bool false) hR (fun w _ => by kernel_rfl) (hS297) ?_
        refine wT 14 (.bool false) hR (fun w _ => by kernel_rfl) (hS297) ?_
        refine wT 15 (.int .i64 ((sunU p t l9).1 : Int)) hR (fun w _ => by kernel_rfl) (hS297) ?_
        refine wT 16 (.int .i64 ((sunU p t l9).1 : Int)) hR (fun w _ => by kernel_rfl) (hS297) ?_
        refine wT 17 (.bool false) hR (fun w _ => ev_nne (show _ = Result.ok (Next.value (Value.bool (((sunU p t l9).1 : Int) != ((sunU p t l9).1 : Int)))) _ from by kernel_rfl) (rfl)) (hS297) ?_
        refine wT 18 (.bool false) hR (fun w _ => by kernel_rfl) (hS297) ?_
        refine wT 19 (.bool false) hR (fun w _ => by kernel_rfl) (hS297) ?_
        refine wT 20 (.int .i64 ((sunU p t l9).2 : Int)) hR (fun w _ => by kernel_rfl) (hS297) ?_
        refine wT 21 (.int .i64 ((sunU p t l9).2 : Int)) hR (fun w _ => by kernel_rfl) (hS297) ?_
        refine wT 22 (.bool false) hR (fun w _ => ev_nne (show _ = Result.ok (Next.value (Value.bool (((sunU p t l9).2 : Int) != ((sunU p t l9).2 : Int)))) _ from by kernel_rfl) (rfl)) (hS297) ?_
        refine wT 23 (.bool false) hR (fun w _ => by kernel_rfl) (hS297) ?_
        refine wT 24 (.bool false) hR (fun w _ => by kernel_rfl) (hS297) ?_
        refine wT 25 (.agg #[.int .i64 p.p, .int .i64 p.f, .int .i64 p.lo, .int .i64 p.hi, .int .i64 p.nd, .int .i64 p.tn, .int .i64 p.sl]) hR (fun w hS => ex_load rfl (by kernel_rfl) (ld24 (hS.2.2.2.2.1) (hS.2.2.2.2.2.1) (hS.2.2.2.2.2.2.1) (hS.2.2.2.2.2.2.2.1) (hS.2.2.2.2.2.2.2.2.1) (hS.2.2.2.2.2.2.2.2.2.1) (hS.2.2.2.2.2.2.2.2.2.2.1))) (hS297) ?_
        refine wT 26 (.agg #[.int .i64 t.1, .int .i64 t.2]) hR (fun w hS => ex_load rfl (by kernel_rfl) (ld26 (hS.2.2.2.2.2.2.2.2.2.2.2.1) (hS.2.2.2.2.2.2.2.2.2.2.2.2.1))) (hS297) ?_
        refine wT 27 (.int .i64 l9) hR (fun w _ => by kernel_rfl) (hS297) ?_
        refine wT 29 (.agg #[.int .i64 p.p, .int .i64 p.f, .int .i64 p.lo, .int .i64 p.hi, .int .i64 p.nd, .int .i64 p.tn, .int .i64 p.sl]) hR (fun w hS => ex_load rfl (by kernel_rfl) (ld24 (hS.2.2.2.2.1) (hS.2.2.2.2.2.1) (hS.2.2.2.2.2.2.1) (hS.2.2.2.2.2.2.2.1) (hS.2.2.2.2.2.2.2.2.1) (hS.2.2.2.2.2.2.2.2.2.1) (hS.2.2.2.2.2.2.2.2.2.2.1))) (hS297) ?_
        refine wT 30 (.agg #[.int .i64 t.1, .int .i64 t.2]) hR (fun w hS => ex_load rfl (by kernel_rfl) (ld26 (hS.2.2.2.2.2.2.2.2.2.2.2.1) (hS.2.2.2.2.2.2.2.2.2.2.2.2.1))) (hS297) ?_
        refine wT 31 (.int .i64 l9) hR (fun w _ => by kernel_rfl) (hS297) ?_
        refine wS 28 hR (sn_call (f := 22) (args := #[.agg #[.int .i64 p.p, .int .i64 p.f, .int .i64 p.lo, .int .i64 p.hi, .int .i64 p.nd, .int .i64 p.tn, .int .i64 p.sl], .agg #[.int .i64 t.1, .int .i64 t.2], .int .i64 l9]) (by kernel_rfl) ((sValid_c p t l9 _).mono ?_))
        rintro e w298 ⟨rfl, hb⟩
        replace hE := hE.trans hb; replace hX279 := hX279.trans hb; have hs299 := hb.size; clear hb
        have hS300 := And.intro ((BoxAt.ext hX279 bO251_0).1) (And.intro ((BoxAt.ext hX279 bO251_1).1) (And.intro ((BoxAt.ext hX279 bO273_0).1) (And.intro ((BoxAt.ext hX279 bO273_1).1) (And.intro ((BoxAt.ext (hY286.trans hX279) bO141_0).1) (And.intro ((BoxAt.ext (hY286.trans hX279) bO141_1).1) (And.intro ((BoxAt.ext (hY286.trans hX279) bO141_2).1) (And.intro ((BoxAt.ext (hY286.trans hX279) bO141_3).1) (And.intro ((BoxAt.ext (hY286.trans hX279) bO141_4).1) (And.intro ((BoxAt.ext (hY286.trans hX279) bO141_5).1) (And.intro ((BoxAt.ext (hY286.trans hX279) bO141_6).1) (And.intro ((BoxAt.ext (hY283.trans hX279) bO161_0).1) (And.intro ((BoxAt.ext (hY283.trans hX279) bO161_1).1) ((BoxAt.ext (hY291.trans hX279) bO26_t104).1)))))))))))))
        refine ⟨_, rfl, hS300, ?_⟩
        refine wS 32 hR (sn_call (f := 23) (args := #[.agg #[.int .i64 p.p, .int .i64 p.f, .int .i64 p.lo, .int .i64 p.hi, .int .i64 p.nd, .int .i64 p.tn, .int .i64 p.sl], .agg #[.int .i64 t.1, .int .i64 t.2], .int .i64 l9]) (by kernel_rfl) ((rValid8_c p t l9 _).mono ?_))
        rintro e w301 ⟨rfl, hb⟩
        replace hE := hE.trans hb; replace hX279 := hX279.trans hb; have hs302 := hb.size; clear hb
        have hS303 := And.intro ((BoxAt.ext hX279 bO251_0).1) (And.intro ((BoxAt.ext hX279 bO251_1).1) (And.intro ((BoxAt.ext hX279 bO273_0).1) (And.intro ((BoxAt.ext hX279 bO273_1).1) (And.intro ((BoxAt.ext (hY286.trans hX279) bO141_0).1) (And.intro ((BoxAt.ext (hY286.trans hX279) bO141_1).1) (And.intro ((BoxAt.ext (hY286.trans hX279) bO141_2).1) (And.intro ((BoxAt.ext (hY286.trans hX279) bO141_3).1) (And.intro ((BoxAt.ext (hY286.trans hX279) bO141_4).1) (And.intro ((BoxAt.ext (hY286.trans hX279) bO141_5).1) (And.intro ((BoxAt.ext (hY286.trans hX279) bO141_6).1) (And.intro ((BoxAt.ext (hY283.trans hX279) bO161_0).1) (And.intro ((BoxAt.ext (hY283.trans hX279) bO161_1).1) ((BoxAt.ext (hY291.trans hX279) bO26_t104).1)))))))))))))
        refine ⟨_, rfl, hS303, ?_⟩
        refine wT 33 (.bool false) hR (fun w _ => ev_bool (show _ = Result.ok (Next.value (Value.bool ((Swath.shB p t l9) != (Swath.shB p t l9)))) _ from by kernel_rfl) (bne_self_eq_false _)) (hS303) ?_
        refine wT 34 (.bool false) hR (fun w _ => by kernel_rfl) (hS303) ?_
        refine wT 35 (.bool false) hR (fun w _ => by kernel_rfl) (hS303) ?_
        refine wT 36 (.agg #[.int .i64 p.p, .int .i64 p.f, .int .i64 p.lo, .int .i64 p.hi, .int .i64 p.nd, .int .i64 p.tn, .int .i64 p.sl]) hR (fun w hS => ex_load rfl (by kernel_rfl) (ld24 (hS.2.2.2.2.1) (hS.2.2.2.2.2.1) (hS.2.2.2.2.2.2.1) (hS.2.2.2.2.2.2.2.1) (hS.2.2.2.2.2.2.2.2.1) (hS.2.2.2.2.2.2.2.2.2.1) (hS.2.2.2.2.2.2.2.2.2.2.1))) (hS303) ?_
        refine wT 37 (.agg #[.int .i64 t.1, .int .i64 t.2]) hR (fun w hS => ex_load rfl (by kernel_rfl) (ld26 (hS.2.2.2.2.2.2.2.2.2.2.2.1) (hS.2.2.2.2.2.2.2.2.2.2.2.2.1))) (hS303) ?_
        refine wT 38 (.int .i64 l9) hR (fun w _ => by kernel_rfl) (hS303) ?_
        refine wT 39 (.agg #[.slice (some ⟨B20, 0, none⟩) 24 24]) hR (fun w hS => ex_load rfl (by kernel_rfl) (ld31 (hS.2.2.2.2.2.2.2.2.2.2.2.2.2))) (hS303) ?_
        refine wT 41 (.agg #[.int .i64 p.p, .int .i64 p.f, .int .i64 p.lo, .int .i64 p.hi, .int .i64 p.nd, .int .i64 p.tn, .int .i64 p.sl]) hR (fun w hS => ex_load rfl (by kernel_rfl) (ld24 (hS.2.2.2.2.1) (hS.2.2.2.2.2.1) (hS.2.2.2.2.2.2.1) (hS.2.2.2.2.2.2.2.1) (hS.2.2.2.2.2.2.2.2.1) (hS.2.2.2.2.2.2.2.2.2.1) (hS.2.2.2.2.2.2.2.2.2.2.1))) (hS303) ?_
        refine wT 42 (.agg #[.int .i64 t.1, .int .i64 t.2]) hR (fun w hS => ex_load rfl (by kernel_rfl) (ld26 (hS.2.2.2.2.2.2.2.2.2.2.2.1) (hS.2.2.2.2.2.2.2.2.2.2.2.2.1))) (hS303) ?_
        refine wT 43 (.int .i64 l9) hR (fun w _ => by kernel_rfl) (hS303) ?_
        refine wT 44 (.agg #[.slice (some ⟨B20, 0, none⟩) 24 24]) hR (fun w hS => ex_load rfl (by kernel_rfl) (ld31 (hS.2.2.2.2.2.2.2.2.2.2.2.2.2))) (hS303) ?_
        refine wS 40 hR (sn_call (f := 24) (args := #[.agg #[.int .i64 p.p, .int .i64 p.f, .int .i64 p.lo, .int .i64 p.hi, .int .i64 p.nd, .int .i64 p.tn, .int .i64 p.sl], .agg #[.int .i64 t.1, .int .i64 t.2], .int .i64 l9, .agg #[.slice (some ⟨B20, 0, none⟩) 24 24]]) (by kernel_rfl) ((Shows_c (o := p) (s := t) (lk := l9) _ _ (RowsAt.va (hrt103.ext (hY291.trans hX279)) hvA).aa (Ext.refl _)).mono ?_))
        rintro e w304 ⟨rfl, hb⟩
        replace hE := hE.trans hb; replace hX279 := hX279.trans hb; have hs305 := hb.size; clear hb
        have hS306 := And.intro ((BoxAt.ext hX279 bO251_0).1) (And.intro ((BoxAt.ext hX279 bO251_1).1) (And.intro ((BoxAt.ext hX279 bO273_0).1) (And.intro ((BoxAt.ext hX279 bO273_1).1) (And.intro ((BoxAt.ext (hY286.trans hX279) bO141_0).1) (And.intro ((BoxAt.ext (hY286.trans hX279) bO141_1).1) (And.intro ((BoxAt.ext (hY286.trans hX279) bO141_2).1) (And.intro ((BoxAt.ext (hY286.trans hX279) bO141_3).1) (And.intro ((BoxAt.ext (hY286.trans hX279) bO141_4).1) (And.intro ((BoxAt.ext (hY286.trans hX279) bO141_5).1) (And.intro ((BoxAt.ext (hY286.trans hX279) bO141_6).1) (And.intro ((BoxAt.ext (hY283.trans hX279) bO161_0).1) (And.intro ((BoxAt.ext (hY283.trans hX279) bO161_1).1) ((BoxAt.ext (hY291.trans hX279) bO26_t104).1)))))))))))))
        refine ⟨_, rfl, hS306, ?_⟩
        refine wS 45 hR (sn_call (f := 25) (args := #[.agg #[.int .i64 p.p, .int .i64 p.f, .int .i64 p.lo, .int .i64 p.hi, .int .i64 p.nd, .int .i64 p.tn, .int .i64 p.sl], .agg #[.int .i64 t.1, .int .i64 t.2], .int .i64 l9, .agg #[.slice (some ⟨B20, 0, none⟩) 24 24]]) (by kernel_rfl) ((rShows_c (o := p) (s := t) (lk := l9) _ _ (RowsAt.va (hrt103.ext (hY291.trans hX279)) hvA).aa (Ext.refl _)).mono ?_))
        rintro e w307 ⟨rfl, hb⟩
        replace hE := hE.trans hb; replace hX279 := hX279.trans hb; have hs308 := hb.size; clear hb
        have hS309 := And.intro ((BoxAt.ext hX279 bO251_0).1) (And.intro ((BoxAt.ext hX279 bO251_1).1) (And.intro ((BoxAt.ext hX279 bO273_0).1) (And.intro ((BoxAt.ext hX279 bO273_1).1) (And.intro ((BoxAt.ext (hY286.trans hX279) bO141_0).1) (And.intro ((BoxAt.ext (hY286.trans hX279) bO141_1).1) (And.intro ((BoxAt.ext (hY286.trans hX279) bO141_2).1) (And.intro ((BoxAt.ext (hY286.trans hX279) bO141_3).1) (And.intro ((BoxAt.ext (hY286.trans hX279) bO141_4).1) (And.intro ((BoxAt.ext (hY286.trans hX279) bO141_5).1) (And.intro ((BoxAt.ext (hY286.trans hX279) bO141_6).1) (And.intro ((BoxAt.ext (hY283.trans hX279) bO161_0).1) (And.intro ((BoxAt.ext (hY283.trans hX279) bO161_1).1) ((BoxAt.ext (hY291.trans hX279) bO26_t104).1)))))))))))))
        refine ⟨_, rfl, hS309, ?_⟩
        refine wT 46 (.bool false) hR (fun w _ => ev_bool (show _ = Result.ok (Next.value (Value.bool ((Swath.showsB p t l9 LA) != (Swath.showsB p t l9 LA)))) _ from by kernel_rfl) (bne_self_eq_false _)) (hS309) ?_
        refine wT 47 (.bool false) hR (fun w _ => by kernel_rfl) (hS309) ?_
        refine wd_end hL hR hK (by kernel_rfl) ?_
        refine qw_then ?_; refine cC22 3 4 6 7 11 14 19 20 22 23 25 27 87 88 89 95 96 97 105 106 107 224 (fun L => ?_)
        refine cw_f (by kernel_rfl) ?_
        refine cw_skip ?_
        refine qw_block ?_
        exact qw_leaf hJ [3, 4, 6, 7, 11, 14, 19, 20, 22, 23, 25, 27, 87, 88, 89, 95, 96, 97, 105, 106, 107] (ws' := [(3, .int .i64 look), (4, .int .i64 late), (6, .int .i64 mn), (7, .int .i64 wd), (11, .pointer (some ⟨O9, 0, none⟩)), (14, .pointer (some ⟨O13, 0, none⟩)), (19, .bool true), (20, .pointer (some ⟨O26, 0, none⟩)), (22, .pointer (some ⟨O43, 0, none⟩)), (23, .pointer (some ⟨O54, 0, none⟩)), (25, .pointer (some ⟨O141, 0, none⟩)), (27, .pointer (some ⟨O161, 0, none⟩)), (87, .slice (some ⟨O78, 0, none⟩) 2 2), (88, .int .i64 2), (89, .int .i64 (((i1 : Nat) : Int) : Int)), (95, .slice (some ⟨O148, 0, none⟩) 2 2), (96, .int .i64 2), (97, .int .i64 (((i2 : Nat) : Int) : Int)), (105, .slice (some ⟨O169, 0, none⟩) 2 2), (106, .int .i64 2), (107, .int .i64 (((i3 : Nat) : Int) : Int))]) (by kernel_rfl) ⟨rfl, (T hs185 (T hs188 (T hs249 (T hs253 (T hs256 (T hs271 (T hs275 (T hs278 (T hs288 (T hs290 (T hs293 (T hs296 (T hs299 (T hs302 (T hs305 hs308))))))))))))))), hE, (hY282.trans hX279)⟩
      ·
       clear hE hX178
       rintro L ws w310 ⟨rfl, hs179, hE, hX178⟩
       refine qw_then ?_; refine cC21 3 4 6 7 11 14 19 20 22 23 25 27 87 88 89 95 96 97 105 106 107 (fun L => ?_); refine cw_plain ?_
       refine pU (.int .i64 (((i3 + 1 : Nat) : Int) : Int)) (ev_wrap (by kernel_rfl) (by omega) (by omega)) ?_
       refine pT (.int .i64 (((i3 + 1 : Nat) : Int) : Int)) ?_; refine pl_nil ?_
       refine qw_round [3, 4, 6, 7, 11, 14, 19, 20, 22, 23, 25, 27, 87, 88, 89, 95, 96, 97, 105, 106, 107] (ws' := [(3, .int .i64 look), (4, .int .i64 late), (6, .int .i64 mn), (7, .int .i64 wd), (11, .pointer (some ⟨O9, 0, none⟩)), (14, .pointer (some ⟨O13, 0, none⟩)), (19, .bool true), (20, .pointer (some ⟨O26, 0, none⟩)), (22, .pointer (some ⟨O43, 0, none⟩)), (23, .pointer (some ⟨O54, 0, none⟩)), (25, .pointer (some ⟨O141, 0, none⟩)), (27, .pointer (some ⟨O161, 0, none⟩)), (87, .slice (some ⟨O78, 0, none⟩) 2 2), (88, .int .i64 2), (89, .int .i64 (((i1 : Nat) : Int) : Int)), (95, .slice (some ⟨O148, 0, none⟩) 2 2), (96, .int .i64 2), (97, .int .i64 (((i2 : Nat) : Int) : Int)), (105, .slice (some ⟨O169, 0, none⟩) 2 2), (106, .int .i64 2), (107, .int .i64 (((i3 + 1 : Nat) : Int) : Int))]) (by kernel_rfl) _ ?_ ⟨(i3 + 1), rfl, rfl, (T hs174 hs179), hE, (hX173.trans hX178), by omega⟩
       omega
     ·
      refine cw_seq ?_; refine cw_plain ?_
      refine pU (.bool false) (ev_ndec (show _ = Result.ok (Next.value (Value.bool (decide ((((i3 : Nat) : Int) : Int) < (2 : Int))))) _ from by kernel_rfl) (by omega)) ?_
      refine pl_nil ?_; refine qw_then ?_; refine cC22 3 4 6 7 11 14 19 20 22 23 25 27 87 88 89 95 96 97 105 106 107 108 (fun L => ?_); refine cw_seq ?_
      refine cw_f (by kernel_rfl) ?_
      refine cw_exit ?_
      refine qw_then_exit ?_
      refine qw_then_exit ?_
      refine qw_block_out ?_
      refine qw_block ?_
      exact qw_leaf hJ [3, 4, 6, 7, 11, 14, 19, 20, 22, 23, 25, 87, 88, 89, 95, 96, 97] (ws' := [(3, .int .i64 look), (4, .int .i64 late), (6, .int .i64 mn), (7, .int .i64 wd), (11, .pointer (some ⟨O9, 0, none⟩)), (14, .pointer (some ⟨O13, 0, none⟩)), (19, .bool true), (20, .pointer (some ⟨O26, 0, none⟩)), (22, .pointer (some ⟨O43, 0, none⟩)), (23, .pointer (some ⟨O54, 0, none⟩)), (25, .pointer (some ⟨O141, 0, none⟩)), (87, .slice (some ⟨O78, 0, none⟩) 2 2), (88, .int .i64 2), (89, .int .i64 (((i1 : Nat) : Int) : Int)), (95, .slice (some ⟨O148, 0, none⟩) 2 2), (96, .int .i64 2), (97, .int .i64 (((i2 : Nat) : Int) : Int))]) (by kernel_rfl) ⟨rfl, (T hs163 (T hs166 (T hs171 hs174))), hE, (hX158.trans hX173)⟩
    ·
     clear hE hX158
     rintro L ws w311 ⟨rfl, hs159, hE, hX158⟩
     refine qw_then ?_; refine cC17 3 4 6 7 11 14 19 20 22 23 25 87 88 89 95 96 97 (fun L => ?_); refine cw_plain ?_
     refine pU (.int .i64 (((i2 + 1 : Nat) : Int) : Int)) (ev_wrap (by kernel_rfl) (by omega) (by omega)) ?_
     refine pT (.int .i64 (((i2 + 1 : Nat) : Int) : Int)) ?_; refine pl_nil ?_
     refine qw_round [3, 4, 6, 7, 11, 14, 19, 20, 22, 23, 25, 87, 88, 89, 95, 96, 97] (ws' := [(3, .int .i64 look), (4, .int .i64 late), (6, .int .i64 mn), (7, .int .i64 wd), (11, .pointer (some ⟨O9, 0, none⟩)), (14, .pointer (some ⟨O13, 0, none⟩)), (19, .bool true), (20, .pointer (some ⟨O26, 0, none⟩)), (22, .pointer (some ⟨O43, 0, none⟩)), (23, .pointer (some ⟨O54, 0, none⟩)), (25, .pointer (some ⟨O141, 0, none⟩)), (87, .slice (some ⟨O78, 0, none⟩) 2 2), (88, .int .i64 2), (89, .int .i64 (((i1 : Nat) : Int) : Int)), (95, .slice (some ⟨O148, 0, none⟩) 2 2), (96, .int .i64 2), (97, .int .i64 (((i2 + 1 : Nat) : Int) : Int))]) (by kernel_rfl) _ ?_ ⟨(i2 + 1), rfl, rfl, (T hs153 hs159), hE, (hX152.trans hX158), by omega⟩
     omega
   ·
    refine cw_seq ?_; refine cw_plain ?_
    refine pU (.bool false) (ev_ndec (show _ = Result.ok (Next.value (Value.bool (decide ((((i2 : Nat) : Int) : Int) < (2 : Int))))) _ from by kernel_rfl) (by omega)) ?_
    refine pl_nil ?_; refine qw_then ?_; refine cC18 3 4 6 7 11 14 19 20 22 23 25 87 88 89 95 96 97 98 (fun L => ?_); refine cw_seq ?_
    refine cw_f (by kernel_rfl) ?_
    refine cw_exit ?_
    refine qw_then_exit ?_
    refine qw_then_exit ?_
    refine qw_block_out ?_
    refine qw_then ?_; refine cC14 3 4 6 7 11 14 19 20 22 23 25 87 88 89 (fun L => ?_); refine cw_seq ?_; refine cw_plain ?_; refine pT (.pointer (some ⟨O13, 1, none⟩)) ?_
    have hY312 := hX140.trans hX147
    refine pU (.int .i64 zt) (ex_load rfl (by kernel_rfl) (ld3 ((BoxAt.ext (hY312.trans hX152) hzt).1))) ?_
    refine pT (.pointer (some ⟨O13, 0, none⟩)) ?_
    refine pU (.int .i64 sn.1) (ex_load rfl (by kernel_rfl) (ld3 ((BoxAt.ext (hY312.trans hX152) bO13_t101).1))) ?_
    refine pU (.int .i64 (max (sn.1 : Int) (0 : Int) : Int)) (ev_int (show _ = Result.ok (Next.value (Value.int .i64 (if (sn.1 : Int) < (0 : Int) then (0 : Int) else (sn.1 : Int)))) _ from by kernel_rfl) (by split <;> omega)) ?_
    refine pT (.int .i64 (IntKind.i64.wrap (max sn.1 0 + 80) : Int)) ?_
    refine pU (.int .i64 (min (zt : Int) (IntKind.i64.wrap (max sn.1 0 + 80) : Int) : Int)) (ev_int (show _ = Result.ok (Next.value (Value.int .i64 (if (IntKind.i64.wrap (max sn.1 0 + 80) : Int) < (zt : Int) then (IntKind.i64.wrap (max sn.1 0 + 80) : Int) else (zt : Int)))) _ from by kernel_rfl) (by split <;> omega)) ?_
    refine pT (.pointer (some ⟨O13, 1, none⟩)) ?_
    have bO1_tt314 := (BoxAt.ext (hY312.trans hX152) bO1_t83)
    have bO1_tt315 := (BoxAt.ext (hY312.trans hX152) bO1_t86)
    have bO1_tt316 := (BoxAt.ext (hY312.trans hX152) bO1_t87)
    have bO1_tt317 := (BoxAt.ext (hY312.trans hX152) bO1_t88)
    have bO1_tt318 := (BoxAt.ext (hY312.trans hX152) bO1_t89)
    have bO1_tt319 := (BoxAt.ext (hY312.trans hX152) bO1_t90)
    have bO1_tt320 := (BoxAt.ext (hY312.trans hX152) bO1_t91)
    have bO5_tt321 := (BoxAt.ext (hY312.trans hX152) bO5_t92)
    have bO5_tt322 := (BoxAt.ext (hY312.trans hX152) bO5_t93)
    have bO5_tt323 := (BoxAt.ext (hY312.trans hX152) bO5_t94)
    have bO5_tt324 := (BoxAt.ext (hY312.trans hX152) bO5_t95)
    have bO5_tt325 := (BoxAt.ext (hY312.trans hX152) bO5_t96)
    have bO5_tt326 := (BoxAt.ext (hY312.trans hX152) bO5_t97)
    have bO5_tt327 := (BoxAt.ext (hY312.trans hX152) bO5_t98)
    have bO9_tt328 := (BoxAt.ext (hY312.trans hX152) bO9_t99)
    have bO9_tt329 := (BoxAt.ext (hY312.trans hX152) bO9_t100)
    have bO13_tt330 := (BoxAt.ext (hY312.trans hX152) bO13_t101)
    have hrtt331 := (hrt103.ext (hY312.trans hX152))
    have bO26_tt332 := (BoxAt.ext (hY312.trans hX152) bO26_t104)
    have bO34_tt333 := (BoxAt.ext (hY312.trans hX152) bO34_t105)
    have bO34_tt334 := (BoxAt.ext (hY312.trans hX152) bO34_t106)
    have bO34_tt335 := (BoxAt.ext (hY312.trans hX152) bO34_t107)
    have bO34_tt336 := (BoxAt.ext (hY312.trans hX152) bO34_t108)
    have bO34_tt337 := (BoxAt.ext (hY312.trans hX152) bO34_t109)
    have bO34_tt338 := (BoxAt.ext (hY312.trans hX152) bO34_t110)
    have bO34_tt339 := (BoxAt.ext (hY312.trans hX152) bO34_t111)
    have bO43_tt340 := (BoxAt.ext (hY312.trans hX152) bO43_t112)
    have bO43_tt341 := (BoxAt.ext (hY312.trans hX152) bO43_t113)
    have bO54_tt342 := (BoxAt.ext (hY312.trans hX152) bO54_t114)
    have bO54_tt343 := (BoxAt.ext (hY312.trans hX152) bO54_t115)
    have bO78_tt344 := (BoxAt.ext (hY312.trans hX152) bO78_t116)
    have bO78_tt345 := (BoxAt.ext (hY312.trans hX152) bO78_t117)
    have bO78_tt346 := (BoxAt.ext (hY312.trans hX152) bO78_t118)
    have bO78_tt347 := (BoxAt.ext (hY312.trans hX152) bO78_t119)
    have bO78_tt348 := (BoxAt.ext (hY312.trans hX152) bO78_t120)
    have bO78_tt349 := (BoxAt.ext (hY312.trans hX152) bO78_t121)
    have bO78_tt350 := (BoxAt.ext (hY312.trans hX152) bO78_t122)
    have bO78_tt351 := (BoxAt.ext (hY312.trans hX152) bO78_t123)
    have bO78_tt352 := (BoxAt.ext (hY312.trans hX152) bO78_t124)
    have bO78_tt353 := (BoxAt.ext (hY312.trans hX152) bO78_t125)
    have bO78_tt354 := (BoxAt.ext (hY312.trans hX152) bO78_t126)
    have bO78_tt355 := (BoxAt.ext (hY312.trans hX152) bO78_t127)
    have bO78_tt356 := (BoxAt.ext (hY312.trans hX152) bO78_t128)
    have bO78_tt357 := (BoxAt.ext (hY312.trans hX152) bO78_t129)
    have hztt358 := (BoxAt.ext (hY312.trans hX152) hzt)
    have helt359 := (BoxAt.ext (hY312.trans hX152) hel133)
    have helt360 := (BoxAt.ext (hY312.trans hX152) hel134)
    have helt361 := (BoxAt.ext (hY312.trans hX152) hel135)
    have helt362 := (BoxAt.ext (hY312.trans hX152) hel136)
    have helt363 := (BoxAt.ext (hY312.trans hX152) hel137)
    have helt364 := (BoxAt.ext (hY312.trans hX152) hel138)
    have helt365 := (BoxAt.ext (hY312.trans hX152) hel139)
    have bO141_t366 := (BoxAt.ext (hX147.trans hX152) bO141_0)
    have bO141_t367 := (BoxAt.ext (hX147.trans hX152) bO141_1)
    have bO141_t368 := (BoxAt.ext (hX147.trans hX152) bO141_2)
    have bO141_t369 := (BoxAt.ext (hX147.trans hX152) bO141_3)
    have bO141_t370 := (BoxAt.ext (hX147.trans hX152) bO141_4)
    have bO141_t371 := (BoxAt.ext (hX147.trans hX152) bO141_5)
    have bO141_t372 := (BoxAt.ext (hX147.trans hX152) bO141_6)
    have bO148_t373 := (BoxAt.ext hX152 bO148_0)
    have bO148_t374 := (BoxAt.ext hX152 bO148_1)
    have bO148_t375 := (BoxAt.ext hX152 bO148_2)
    have bO148_t376 := (BoxAt.ext hX152 bO148_3)
    refine pP (sn_set (O := O13) (j := 1) (v := .int .i64 (min (zt : Int) (IntKind.i64.wrap (max sn.1 0 + 80) : Int) : Int)) (ex_store (p := .pointer (some ⟨O13, 1, none⟩)) (v := .int .i64 (min (zt : Int) (IntKind.i64.wrap (max sn.1 0 + 80) : Int) : Int)) rfl (by kernel_rfl) (by kernel_rfl) (st3 hztt358.1 hztt358.2)) hztt358 ?_)
    intro X313 ho hv0 hk; replace hE := ho.ext hE (T (T hs3 (T hs7 hs11)) (Nat.le_of_eq hzO13))
    have q9 := fun (j : Nat) (v : Value) (h : BoxAt _ O1 j v) => ho.box (Nat.ne_of_gt (Nat.lt_of_lt_of_le lt4 (T (T hs7 hs11) (Nat.le_of_eq hzO13)))) h
    replace bO1_tt314 := q9 _ _ bO1_tt314; replace bO1_tt315 := q9 _ _ bO1_tt315; replace bO1_tt316 := q9 _ _ bO1_tt316; replace bO1_tt317 := q9 _ _ bO1_tt317; replace bO1_tt318 := q9 _ _ bO1_tt318; replace bO1_tt319 := q9 _ _ bO1_tt319; replace bO1_tt320 := q9 _ _ bO1_tt320; clear q9
    have q9 := fun (j : Nat) (v : Value) (h : BoxAt _ O5 j v) => ho.box (Nat.ne_of_gt (Nat.lt_of_lt_of_le lt8 (T hs11 (Nat.le_of_eq hzO13)))) h
    replace bO5_tt321 := q9 _ _ bO5_tt321; replace bO5_tt322 := q9 _ _ bO5_tt322; replace bO5_tt323 := q9 _ _ bO5_tt323; replace bO5_tt324 := q9 _ _ bO5_tt324; replace bO5_tt325 := q9 _ _ bO5_tt325; replace bO5_tt326 := q9 _ _ bO5_tt326; replace bO5_tt327 := q9 _ _ bO5_tt327; clear q9
    have q9 := fun (j : Nat) (v : Value) (h : BoxAt _ O9 j v) => ho.box (Nat.ne_of_gt (Nat.lt_of_lt_of_le lt12 (Nat.le_of_eq hzO13))) h
    replace bO9_tt328 := q9 _ _ bO9_tt328; replace bO9_tt329 := q9 _ _ bO9_tt329; clear q9; replace bO13_tt330 := hk 0 _ (by omega) bO13_tt330; replace hrtt331 := ho.rows (Nat.ne_of_lt (Nat.lt_of_lt_of_le lt16 (T hs19 hn21))) hrtt331; replace bO26_tt332 := ho.box (Nat.ne_of_lt (Nat.lt_of_lt_of_le lt16 (T (T hs19 hs24) (Nat.le_of_eq hzO26)))) bO26_tt332
    have q9 := fun (j : Nat) (v : Value) (h : BoxAt _ O34 j v) => ho.box (Nat.ne_of_lt (Nat.lt_of_lt_of_le lt16 (T (T hs19 (T hs24 (T hs28 (T hs31 hs33)))) (Nat.le_of_eq hzO34)))) h
    replace bO34_tt333 := q9 _ _ bO34_tt333; replace bO34_tt334 := q9 _ _ bO34_tt334; replace bO34_tt335 := q9 _ _ bO34_tt335; replace bO34_tt336 := q9 _ _ bO34_tt336; replace bO34_tt337 := q9 _ _ bO34_tt337; replace bO34_tt338 := q9 _ _ bO34_tt338; replace bO34_tt339 := q9 _ _ bO34_tt339; clear q9
    have q9 := fun (j : Nat) (v : Value) (h : BoxAt _ O43 j v) => ho.box (Nat.ne_of_lt (Nat.lt_of_lt_of_le lt16 (T (T hs19 (T hs24 (T hs28 (T hs31 (T hs33 (T hs36 (T hs39 hs42))))))) (Nat.le_of_eq hzO43)))) h
    replace bO43_tt340 := q9 _ _ bO43_tt340; replace bO43_tt341 := q9 _ _ bO43_tt341; clear q9
    have q9 := fun (j : Nat) (v : Value) (h : BoxAt _ O54 j v) => ho.box (Nat.ne_of_lt (Nat.lt_of_lt_of_le lt16 (T (T hs19 (T hs24 (T hs28 (T hs31 (T hs33 (T hs36 (T hs39 (T hs42 (T hs45 hs48))))))))) hn74))) h
    replace bO54_tt342 := q9 _ _ bO54_tt342; replace bO54_tt343 := q9 _ _ bO54_tt343; clear q9; replace bO78_tt344 := ho.box (Nat.ne_of_lt (Nat.lt_of_lt_of_le lt16 (T (T hs19 (T hs24 (T hs28 (T hs31 (T hs33 (T hs36 (T hs39 (T hs42 (T hs45 (T hs48 hn73)))))))))) (Nat.le_of_eq hzO78)))) bO78_tt344; replace bO78_tt345 := ho.box (Nat.ne_of_lt (Nat.lt_of_lt_of_le lt16 (T (T hs19 (T hs24 (T hs28 (T hs31 (T hs33 (T hs36 (T hs39 (T hs42 (T hs45 (T hs48 hn73)))))))))) (Nat.le_of_eq hzO78)))) bO78_tt345; replace bO78_tt346 := ho.box (Nat.ne_of_lt (Nat.lt_of_lt_of_le lt16 (T (T hs19 (T hs24 (T hs28 (T hs31 (T hs33 (T hs36 (T hs39 (T hs42 (T hs45 (T hs48 hn73)))))))))) (Nat.le_of_eq hzO78)))) bO78_tt346; replace bO78_tt347 := ho.box (Nat.ne_of_lt (Nat.lt_of_lt_of_le lt16 (T (T hs19 (T hs24 (T hs28 (T hs31 (T hs33 (T hs36 (T hs39 (T hs42 (T hs45 (T hs48 hn73)))))))))) (Nat.le_of_eq hzO78)))) bO78_tt347; replace bO78_tt348 := ho.box (Nat.ne_of_lt (Nat.lt_of_lt_of_le lt16 (T (T hs19 (T hs24 (T hs28 (T hs31 (T hs33 (T hs36 (T hs39 (T hs42 (T hs45 (T hs48 hn73)))))))))) (Nat.le_of_eq hzO78)))) bO78_tt348; replace bO78_tt349 := ho.box (Nat.ne_of_lt (Nat.lt_of_lt_of_le lt16 (T (T hs19 (T hs24 (T hs28 (T hs31 (T hs33 (T hs36 (T hs39 (T hs42 (T hs45 (T hs48 hn73)))))))))) (Nat.le_of_eq hzO78)))) bO78_tt349; replace bO78_tt350 := ho.box (Nat.ne_of_lt (Nat.lt_of_lt_of_le lt16 (T (T hs19 (T hs24 (T hs28 (T hs31 (T hs33 (T hs36 (T hs39 (T hs42 (T hs45 (T hs48 hn73)))))))))) (Nat.le_of_eq hzO78)))) bO78_tt350; replace bO78_tt351 := ho.box (Nat.ne_of_lt (Nat.lt_of_lt_of_le lt16 (T (T hs19 (T hs24 (T hs28 (T hs31 (T hs33 (T hs36 (T hs39 (T hs42 (T hs45 (T hs48 hn73)))))))))) (Nat.le_of_eq hzO78)))) bO78_tt351; replace bO78_tt352 := ho.box (Nat.ne_of_lt (Nat.lt_of_lt_of_le lt16 (T (T hs19 (T hs24 (T hs28 (T hs31 (T hs33 (T hs36 (T hs39 (T hs42 (T hs45 (T hs48 hn73)))))))))) (Nat.le_of_eq hzO78)))) bO78_tt352; replace bO78_tt353 := ho.box (Nat.ne_of_lt (Nat.lt_of_lt_of_le lt16 (T (T hs19 (T hs24 (T hs28 (T hs31 (T hs33 (T hs36 (T hs39 (T hs42 (T hs45 (T hs48 hn73)))))))))) (Nat.le_of_eq hzO78)))) bO78_tt353; replace bO78_tt354 := ho.box (Nat.ne_of_lt (Nat.lt_of_lt_of_le lt16 (T (T hs19 (T hs24 (T hs28 (T hs31 (T hs33 (T hs36 (T hs39 (T hs42 (T hs45 (T hs48 hn73)))))))))) (Nat.le_of_eq hzO78)))) bO78_tt354; replace bO78_tt355 := ho.box (Nat.ne_of_lt (Nat.lt_of_lt_of_le lt16 (T (T hs19 (T hs24 (T hs28 (T hs31 (T hs33 (T hs36 (T hs39 (T hs42 (T hs45 (T hs48 hn73)))))))))) (Nat.le_of_eq hzO78)))) bO78_tt355; replace bO78_tt356 := ho.box (Nat.ne_of_lt (Nat.lt_of_lt_of_le lt16 (T (T hs19 (T hs24 (T hs28 (T hs31 (T hs33 (T hs36 (T hs39 (T hs42 (T hs45 (T hs48 hn73)))))))))) (Nat.le_of_eq hzO78)))) bO78_tt356; replace bO78_tt357 := ho.box (Nat.ne_of_lt (Nat.lt_of_lt_of_le lt16 (T (T hs19 (T hs24 (T hs28 (T hs31 (T hs33 (T hs36 (T hs39 (T hs42 (T hs45 (T hs48 hn73)))))))))) (Nat.le_of_eq hzO78)))) bO78_tt357; replace helt359 := ho.box (Nat.ne_of_lt (Nat.lt_of_lt_of_le lt16 (T (T hs19 (T hs24 (T hs28 (T hs31 (T hs33 (T hs36 (T hs39 (T hs42 (T hs45 (T hs48 hn73)))))))))) (Nat.le_of_eq hzO78)))) helt359; replace helt360 := ho.box (Nat.ne_of_lt (Nat.lt_of_lt_of_le lt16 (T (T hs19 (T hs24 (T hs28 (T hs31 (T hs33 (T hs36 (T hs39 (T hs42 (T hs45 (T hs48 hn73)))))))))) (Nat.le_of_eq hzO78)))) helt360; replace helt361 := ho.box (Nat.ne_of_lt (Nat.lt_of_lt_of_le lt16 (T (T hs19 (T hs24 (T hs28 (T hs31 (T hs33 (T hs36 (T hs39 (T hs42 (T hs45 (T hs48 hn73)))))))))) (Nat.le_of_eq hzO78)))) helt361; replace helt362 := ho.box (Nat.ne_of_lt (Nat.lt_of_lt_of_le lt16 (T (T hs19 (T hs24 (T hs28 (T hs31 (T hs33 (T hs36 (T hs39 (T hs42 (T hs45 (T hs48 hn73)))))))))) (Nat.le_of_eq hzO78)))) helt362; replace helt363 := ho.box (Nat.ne_of_lt (Nat.lt_of_lt_of_le lt16 (T (T hs19 (T hs24 (T hs28 (T hs31 (T hs33 (T hs36 (T hs39 (T hs42 (T hs45 (T hs48 hn73)))))))))) (Nat.le_of_eq hzO78)))) helt363; replace helt364 := ho.box (Nat.ne_of_lt (Nat.lt_of_lt_of_le lt16 (T (T hs19 (T hs24 (T hs28 (T hs31 (T hs33 (T hs36 (T hs39 (T hs42 (T hs45 (T hs48 hn73)))))))))) (Nat.le_of_eq hzO78)))) helt364
    replace helt365 := ho.box (Nat.ne_of_lt (Nat.lt_of_lt_of_le lt16 (T (T hs19 (T hs24 (T hs28 (T hs31 (T hs33 (T hs36 (T hs39 (T hs42 (T hs45 (T hs48 hn73)))))))))) (Nat.le_of_eq hzO78)))) helt365
    have q9 := fun (j : Nat) (v : Value) (h : BoxAt _ O141 j v) => ho.box (Nat.ne_of_lt (Nat.lt_of_lt_of_le lt16 (T (T hs19 (T hs24 (T hs28 (T hs31 (T hs33 (T hs36 (T hs39 (T hs42 (T hs45 (T hs48 (T hn73 (T hs80 hs130)))))))))))) (Nat.le_of_eq hzO141)))) h
    replace bO141_t366 := q9 _ _ bO141_t366; replace bO141_t367 := q9 _ _ bO141_t367; replace bO141_t368 := q9 _ _ bO141_t368; replace bO141_t369 := q9 _ _ bO141_t369; replace bO141_t370 := q9 _ _ bO141_t370; replace bO141_t371 := q9 _ _ bO141_t371; replace bO141_t372 := q9 _ _ bO141_t372; clear q9
    have q9 := fun (j : Nat) (v : Value) (h : BoxAt _ O148 j v) => ho.box (Nat.ne_of_lt (Nat.lt_of_lt_of_le lt16 (T (T hs19 (T hs24 (T hs28 (T hs31 (T hs33 (T hs36 (T hs39 (T hs42 (T hs45 (T hs48 (T hn73 (T hs80 (T hs130 (T hs143 hs146)))))))))))))) (Nat.le_of_eq hzO148)))) h
    replace bO148_t373 := q9 _ _ bO148_t373; replace bO148_t374 := q9 _ _ bO148_t374; replace bO148_t375 := q9 _ _ bO148_t375; replace bO148_t376 := q9 _ _ bO148_t376; clear q9; have hs377 : w154.heap.size ≤ X313.heap.size := Nat.le_of_eq ho.size.symm; clear ho hk hztt358; have hztt358 := hv0; clear hv0; refine pl_nil ?_; refine qw_then ?_; refine cC14 3 4 6 7 11 14 19 20 22 23 25 87 88 89 (fun L => ?_); refine cw_seq ?_; have hX378 : Ext X313 X313 := Ext.refl _; refine cw_plain ?_
    refine pU (.agg #[.int .i64 sn.1, .int .i64 (min (zt : Int) (IntKind.i64.wrap (max sn.1 0 + 80) : Int) : Int)]) (ex_load rfl (by kernel_rfl) (ld26 (bO13_tt330.1) (hztt358.1))) ?_
    refine pU (.agg #[.int .i64 s.1, .int .i64 ((s.1 + 1) + (((pk53 : Nat) : Int)) : Int)]) (ex_load rfl (by kernel_rfl) (ld26 (bO54_tt342.1) (bO54_tt343.1))) ?_
    refine pS (sn_newS (us := #[.int .i64 sn.1, .int .i64 (min (zt : Int) (IntKind.i64.wrap (max sn.1 0 + 80) : Int) : Int), .int .i64 s.1, .int .i64 ((s.1 + 1) + (((pk53 : Nat) : Int)) : Int)]) (t := 26) (k := 2) (c := 2) (by kernel_rfl) ?_)
    intro O379 X380 hzO379 hyO379 hb hbx; have ⟨bO379_0, bO379_1, bO379_2, bO379_3⟩ := bx4 hbx; clear hbx
    replace hE := hE.trans hb; replace hX378 := hX378.trans hb; have hs381 := hb.size; clear hb; have lt382 := bO379_0.lt; refine pT (.int .i64 2) ?_; refine pT (.int .i64 0) ?_; refine pl_nil ?_; refine qw_then ?_; refine cC17 3 4 6 7 11 14 19 20 22 23 25 87 88 89 237 238 239 (fun L => ?_)
    refine cw_block ?_
    have hX383 : Ext X380 X380 := Ext.refl _
    refine cw_loop [3, 4, 6, 7, 11, 14, 19, 20, 22, 23, 25, 87, 88, 89, 237, 238, 239] (fun ws' wr m => ∃ i5 : Nat, ws' = [(3, .int .i64 look), (4, .int .i64 late), (6, .int .i64 mn), (7, .int .i64 wd), (11, .pointer (some ⟨O9, 0, none⟩)), (14, .pointer (some ⟨O13, 0, none⟩)), (19, .bool true), (20, .pointer (some ⟨O26, 0, none⟩)), (22, .pointer (some ⟨O43, 0, none⟩)), (23, .pointer (some ⟨O54, 0, none⟩)), (25, .pointer (some ⟨O141, 0, none⟩)), (87, .slice (some ⟨O78, 0, none⟩) 2 2), (88, .int .i64 2), (89, .int .i64 (((i1 : Nat) : Int) : Int)), (237, .slice (some ⟨O379, 0, none⟩) 2 2), (238, .int .i64 2), (239, .int .i64 (((i5 : Nat) : Int) : Int))] ∧ m = 2 - i5 ∧ X380.heap.size ≤ wr.heap.size ∧ Ext w wr ∧ Ext X380 wr ∧ i5 ≤ 2) (ws0 := [(3, .int .i64 look), (4, .int .i64 late), (6, .int .i64 mn), (7, .int .i64 wd), (11, .pointer (some ⟨O9, 0, none⟩)), (14, .pointer (some ⟨O13, 0, none⟩)), (19, .bool true), (20, .pointer (some ⟨O26, 0, none⟩)), (22, .pointer (some ⟨O43, 0, none⟩)), (23, .pointer (some ⟨O54, 0, none⟩)), (25, .pointer (some ⟨O141, 0, none⟩)), (87, .slice (some ⟨O78, 0, none⟩) 2 2), (88, .int .i64 2), (89, .int .i64 (((i1 : Nat) : Int) : Int)), (237, .slice (some ⟨O379, 0, none⟩) 2 2), (238, .int .i64 2), (239, .int .i64 0)]) (by kernel_rfl) _ ⟨0, rfl, rfl, Nat.le_refl _, hE, hX383, by omega⟩ ?_
    clear hE hX383
    rintro m386 L ws w385 ⟨i5, rfl, rfl, hs384, hE, hX383, hi5⟩
    by_cases hlt : i5 < 2
    ·
     have hli5 := hlt; clear hlt
     obtain ⟨t, hel387, hel388⟩ : ∃ t : Int × Int, BoxAt w385 O379 (i5 * 2) (.int .i64 t.1) ∧ BoxAt w385 O379 (i5 * 2 + 1) (.int .i64 t.2) := by
      rcases (show i5 = 0 ∨ i5 = 1 by omega) with rfl | rfl
      · exact ⟨(sn.1, min (zt : Int) (IntKind.i64.wrap (max sn.1 0 + 80) : Int)), (BoxAt.ext hX383 bO379_0), (BoxAt.ext hX383 bO379_1)⟩
      · exact ⟨(s.1, (s.1 + 1) + (((pk53 : Nat) : Int))), (BoxAt.ext hX383 bO379_2), (BoxAt.ext hX383 bO379_3)⟩
     refine cw_seq ?_; refine cw_plain ?_
     refine pU (.bool true) (ev_dec (show _ = Result.ok (Next.value (Value.bool (decide ((((i5 : Nat) : Int) : Int) < (2 : Int))))) _ from by kernel_rfl) (by omega)) ?_
     refine pl_nil ?_; refine qw_then ?_; refine cC18 3 4 6 7 11 14 19 20 22 23 25 87 88 89 237 238 239 240 (fun L => ?_); refine cw_seq ?_
     refine cw_t (by kernel_rfl) ?_
     refine cw_skip ?_
     refine qw_then ?_; refine cC17 3 4 6 7 11 14 19 20 22 23 25 87 88 89 237 238 239 (fun L => ?_); refine cw_seq ?_; have hX389 : Ext w385 w385 := Ext.refl _
     refine cw_cut ((calm_then (calm_then (calm_block (calm_block (calm_then (calm_then (calm_block (calm_then calm_body))))))))) (fun ws' wr => ws' = [(3, .int .i64 look), (4, .int .i64 late), (6, .int .i64 mn), (7, .int .i64 wd), (11, .pointer (some ⟨O9, 0, none⟩)), (14, .pointer (some ⟨O13, 0, none⟩)), (19, .bool true), (20, .pointer (some ⟨O26, 0, none⟩)), (22, .pointer (some ⟨O43, 0, none⟩)), (23, .pointer (some ⟨O54, 0, none⟩)), (25, .pointer (some ⟨O141, 0, none⟩)), (87, .slice (some ⟨O78, 0, none⟩) 2 2), (88, .int .i64 2), (89, .int .i64 (((i1 : Nat) : Int) : Int)), (237, .slice (some ⟨O379, 0, none⟩) 2 2), (238, .int .i64 2), (239, .int .i64 (((i5 : Nat) : Int) : Int))] ∧ w385.heap.size ≤ wr.heap.size ∧ Ext w wr ∧ Ext w385 wr) (fun Q hcalm391 hJ => ?_) ?_
     ·
      refine cw_block ?_
      refine cw_seq ?_; refine cw_plain ?_
      refine pU (.pointer (some ⟨O379, i5 * 2, none⟩)) (ex_index (p := .slice (some ⟨O379, 0, none⟩) 2 2) (i := .int .i64 ((i5 : Nat) : Int)) rfl (by kernel_rfl) (by kernel_rfl) (ix38z (k := i5) (by omega))) ?_
      refine pU (.agg #[.int .i64 t.1, .int .i64 t.2]) (ex_load rfl (by kernel_rfl) (ld26 (hel387.1) (hel388.1))) ?_
      refine pS (sn_new (us := #[.int .i64 0, .int .i64 0]) (t := 26) (by kernel_rfl) ?_)
      intro O392 X393 hzO392 hyO392 hb hbx; have ⟨bO392_0, bO392_1⟩ := bx2 hbx; clear hbx
      replace hE := hE.trans hb; replace hX389 := hX389.trans hb; have hs394 := hb.size; clear hb; have lt395 := bO392_0.lt
      refine pP (sn_set2 (O := O392) (j := 0) (v := .int .i64 t.1) (v' := .int .i64 t.2) (ex_store (p := .pointer (some ⟨O392, 0, none⟩)) (v := .agg #[.int .i64 t.1, .int .i64 t.2]) rfl (by kernel_rfl) (by kernel_rfl) (st26 bO392_0.1 bO392_0.2 bO392_1.1 bO392_1.2)) bO392_0 bO392_1 ?_)
      intro X396 ho hv0 hv1 hk; replace hE := ho.ext hE (T (T hs3 (T hs7 (T hs11 (T hs15 (T hs19 (T hs24 (T hs28 (T hs31 (T hs33 (T hs36 (T hs39 (T hs42 (T hs45 (T hs48 (T hn73 (T hs80 (T hs130 (T hs143 (T hs146 (T hs150 (T hs153 (T hs377 (T hs381 hs384))))))))))))))))))))))) (Nat.le_of_eq hzO392)); replace hX389 := ho.ext hX389 (Nat.le_of_eq hzO392); have hs397 : X393.heap.size ≤ X396.heap.size := Nat.le_of_eq ho.size.symm; clear ho hk bO392_0 bO392_1; have bO392_0 := hv0; clear hv0; have bO392_1 := hv1; clear hv1; refine pl_nil ?_; refine qw_then ?_; refine cC18 3 4 6 7 11 14 19 20 22 23 25 47 87 88 89 237 238 239 (fun L => ?_); refine cw_seq ?_; refine cw_plain ?_; refine pT (.int .i64 mn) ?_; refine pT (.int .i64 wd) ?_; refine pT (.agg #[.int .i64 mn, .int .i64 wd]) ?_; refine pT (.int .i64 mn) ?_
      refine pS (sn_call (f := 13) (args := #[.int .i64 mn, .int .i64 20]) (by kernel_rfl) ((pickL_n _ (20) _ imn (by omega) (by omega)).mono ?_))
      rintro e w' ⟨pk399, rfl, pk399l, -, rfl⟩
      refine ⟨_, rfl, ?_⟩
      refine pU (.int .i64 (((1 + pk399 : Nat) : Int) : Int)) (ev_wrap (by kernel_rfl) (by omega) (by omega)) ?_
      refine pT (.int .i64 wd) ?_
      refine pS (sn_call (f := 13) (args := #[.int .i64 wd, .int .i64 5]) (by kernel_rfl) ((pickL_n _ (5) _ iwd (by omega) (by omega)).mono ?_))
      rintro e w' ⟨pk401, rfl, pk401l, -, rfl⟩
      refine ⟨_, rfl, ?_⟩
      refine pT (.agg #[.int .i64 (((1 + pk399 : Nat) : Int) : Int), .int .i64 (((pk401 : Nat) : Int) : Int)]) ?_
      refine pS (sn_newS (us := #[.int .i64 mn, .int .i64 wd, .int .i64 (((1 + pk399 : Nat) : Int) : Int), .int .i64 (((pk401 : Nat) : Int) : Int)]) (t := 35) (k := 2) (c := 2) (by kernel_rfl) ?_)
      intro O402 X403 hzO402 hyO402 hb hbx; have ⟨bO402_0, bO402_1, bO402_2, bO402_3⟩ := bx4 hbx; clear hbx
      replace hE := hE.trans hb; replace hX389 := hX389.trans hb; replace bO392_0 := BoxAt.ext hb bO392_0; replace bO392_1 := BoxAt.ext hb bO392_1; have hs404 := hb.size; clear hb; have lt405 := bO402_0.lt; refine pT (.int .i64 2) ?_; refine pT (.int .i64 0) ?_; refine pl_nil ?_; refine qw_then ?_; refine cC21 3 4 6 7 11 14 19 20 22 23 25 47 87 88 89 237 238 239 252 253 254 (fun L => ?_)
      refine cw_block ?_
      have hX406 : Ext X403 X403 := Ext.refl _
      refine cw_loop [3, 4, 6, 7, 11, 14, 19, 20, 22, 23, 25, 47, 87, 88, 89, 237, 238, 239, 252, 253, 254] (fun ws' wr m => ∃ i6 : Nat, ws' = [(3, .int .i64 look), (4, .int .i64 late), (6, .int .i64 mn), (7, .int .i64 wd), (11, .pointer (some ⟨O9, 0, none⟩)), (14, .pointer (some ⟨O13, 0, none⟩)), (19, .bool true), (20, .pointer (some ⟨O26, 0, none⟩)), (22, .pointer (some ⟨O43, 0, none⟩)), (23, .pointer (some ⟨O54, 0, none⟩)), (25, .pointer (some ⟨O141, 0, none⟩)), (47, .pointer (some ⟨O392, 0, none⟩)), (87, .slice (some ⟨O78, 0, none⟩) 2 2), (88, .int .i64 2), (89, .int .i64 (((i1 : Nat) : Int) : Int)), (237, .slice (some ⟨O379, 0, none⟩) 2 2), (238, .int .i64 2), (239, .int .i64 (((i5 : Nat) : Int) : Int)), (252, .slice (some ⟨O402, 0, none⟩) 2 2), (253, .int .i64 2), (254, .int .i64 (((i6 : Nat) : Int) : Int))] ∧ m = 2 - i6 ∧ X403.heap.size ≤ wr.heap.size ∧ Ext w wr ∧ Ext X403 wr ∧ i6 ≤ 2) (ws0 := [(3, .int .i64 look), (4, .int .i64 late), (6, .int .i64 mn), (7, .int .i64 wd), (11, .pointer (some ⟨O9, 0, none⟩)), (14, .pointer (some ⟨O13, 0, none⟩)), (19, .bool true), (20, .pointer (some ⟨O26, 0, none⟩)), (22, .pointer (some ⟨O43, 0, none⟩)), (23, .pointer (some ⟨O54, 0, none⟩)), (25, .pointer (some ⟨O141, 0, none⟩)), (47, .pointer (some ⟨O392, 0, none⟩)), (87, .slice (some ⟨O78, 0, none⟩) 2 2), (88, .int .i64 2), (89, .int .i64 (((i1 : Nat) : Int) : Int)), (237, .slice (some ⟨O379, 0, none⟩) 2 2), (238, .int .i64 2), (239, .int .i64 (((i5 : Nat) : Int) : Int)), (252, .slice (some ⟨O402, 0, none⟩) 2 2), (253, .int .i64 2), (254, .int .i64 0)]) (by kernel_rfl) _ ⟨0, rfl, rfl, Nat.le_refl _, hE, hX406, by omega⟩ ?_
      clear hE hX406
      rintro m409 L ws w408 ⟨i6, rfl, rfl, hs407, hE, hX406, hi6⟩
      by_cases hlt : i6 < 2
      ·
       have hli6 := hlt; clear hlt
       obtain ⟨m9, hel410, hel411⟩ : ∃ m9 : Int × Int, BoxAt w408 O402 (i6 * 2) (.int .i64 m9.1) ∧ BoxAt w408 O402 (i6 * 2 + 1) (.int .i64 m9.2) := by
        rcases (show i6 = 0 ∨ i6 = 1 by omega) with rfl | rfl
        · exact ⟨(mn, wd), (BoxAt.ext hX406 bO402_0), (BoxAt.ext hX406 bO402_1)⟩
        · exact ⟨(((1 + pk399 : Nat) : Int), ((pk401 : Nat) : Int)), (BoxAt.ext hX406 bO402_2), (BoxAt.ext hX406 bO402_3)⟩
       refine cw_seq ?_; refine cw_plain ?_
       refine pU (.bool true) (ev_dec (show _ = Result.ok (Next.value (Value.bool (decide ((((i6 : Nat) : Int) : Int) < (2 : Int))))) _ from by kernel_rfl) (by omega)) ?_
       refine pl_nil ?_; refine qw_then ?_; refine cC22 3 4 6 7 11 14 19 20 22 23 25 47 87 88 89 237 238 239 252 253 254 255 (fun L => ?_); refine cw_seq ?_
       refine cw_t (by kernel_rfl) ?_
       refine cw_skip ?_
       refine qw_then ?_; refine cC21 3 4 6 7 11 14 19 20 22 23 25 47 87 88 89 237 238 239 252 253 254 (fun L => ?_); refine cw_seq ?_; have hX412 : Ext w408 w408 := Ext.refl _
       refine cw_cut ((calm_then (calm_then (calm_block (calm_block hcalm391))))) (fun ws' wr => ws' = [(3, .int .i64 look), (4, .int .i64 late), (6, .int .i64 mn), (7, .int .i64 wd), (11, .pointer (some ⟨O9, 0, none⟩)), (14, .pointer (some ⟨O13, 0, none⟩)), (19, .bool true), (20, .pointer (some ⟨O26, 0, none⟩)), (22, .pointer (some ⟨O43, 0, none⟩)), (23, .pointer (some ⟨O54, 0, none⟩)), (25, .pointer (some ⟨O141, 0, none⟩)), (47, .pointer (some ⟨O392, 0, none⟩)), (87, .slice (some ⟨O78, 0, none⟩) 2 2), (88, .int .i64 2), (89, .int .i64 (((i1 : Nat) : Int) : Int)), (237, .slice (some ⟨O379, 0, none⟩) 2 2), (238, .int .i64 2), (239, .int .i64 (((i5 : Nat) : Int) : Int)), (252, .slice (some ⟨O402, 0, none⟩) 2 2), (253, .int .i64 2), (254, .int .i64 (((i6 : Nat) : Int) : Int))] ∧ w408.heap.size ≤ wr.heap.size ∧ Ext w wr ∧ Ext w408 wr) (fun Q hcalm414 hJ => ?_) ?_
       ·
        refine cw_block ?_
        refine cw_seq ?_; refine cw_plain ?_
        refine pU (.pointer (some ⟨O402, i6 * 2, none⟩)) (ex_index (p := .slice (some ⟨O402, 0, none⟩) 2 2) (i := .int .i64 ((i6 : Nat) : Int)) rfl (by kernel_rfl) (by kernel_rfl) (ix52z (k := i6) (by omega))) ?_
        refine pU (.agg #[.int .i64 m9.1, .int .i64 m9.2]) (ex_load rfl (by kernel_rfl) (ld35 (hel410.1) (hel411.1))) ?_
        refine pS (sn_new (us := #[.int .i64 0, .int .i64 0]) (t := 35) (by kernel_rfl) ?_)
        intro O415 X416 hzO415 hyO415 hb hbx; have ⟨bO415_0, bO415_1⟩ := bx2 hbx; clear hbx
        replace hE := hE.trans hb; replace hX412 := hX412.trans hb; have hs417 := hb.size; clear hb; have lt418 := bO415_0.lt
        refine pP (sn_set2 (O := O415) (j := 0) (v := .int .i64 m9.1) (v' := .int .i64 m9.2) (ex_store (p := .pointer (some ⟨O415, 0, none⟩)) (v := .agg #[.int .i64 m9.1, .int .i64 m9.2]) rfl (by kernel_rfl) (by kernel_rfl) (st35 bO415_0.1 bO415_0.2 bO415_1.1 bO415_1.2)) bO415_0 bO415_1 ?_)
        intro X419 ho hv0 hv1 hk; replace hE := ho.ext hE (T (T hs3 (T hs7 (T hs11 (T hs15 (T hs19 (T hs24 (T hs28 (T hs31 (T hs33 (T hs36 (T hs39 (T hs42 (T hs45 (T hs48 (T hn73 (T hs80 (T hs130 (T hs143 (T hs146 (T hs150 (T hs153 (T hs377 (T hs381 (T hs384 (T hs394 (T hs397 (T hs404 hs407))))))))))))))))))))))))))) (Nat.le_of_eq hzO415)); replace hX412 := ho.ext hX412 (Nat.le_of_eq hzO415); have hs420 : X416.heap.size ≤ X419.heap.size := Nat.le_of_eq ho.size.symm; clear ho hk bO415_0 bO415_1; have bO415_0 := hv0; clear hv0; have bO415_1 := hv1; clear hv1; refine pl_nil ?_; refine qw_then ?_; refine cC22 3 4 6 7 11 14 19 20 22 23 25 47 49 87 88 89 237 238 239 252 253 254 (fun L => ?_); refine cw_seq ?_; refine cw_plain ?_
        have hY421 := hX389.trans hX406
        have hY422 := hX383.trans hY421
        have hY423 := hX378.trans hY422
        refine pU (.agg #[.int .i64 p.p, .int .i64 p.f, .int .i64 p.lo, .int .i64 p.hi, .int .i64 p.nd, .int .i64 p.tn, .int .i64 p.sl]) (ex_load rfl (by kernel_rfl) (ld24 ((BoxAt.ext (hY423.trans hX412) bO141_t366).1) ((BoxAt.ext (hY423.trans hX412) bO141_t367).1) ((BoxAt.ext (hY423.trans hX412) bO141_t368).1) ((BoxAt.ext (hY423.trans hX412) bO141_t369).1) ((BoxAt.ext (hY423.trans hX412) bO141_t370).1) ((BoxAt.ext (hY423.trans hX412) bO141_t371).1) ((BoxAt.ext (hY423.trans hX412) bO141_t372).1))) ?_
        refine pU (.agg #[.int .i64 t.1, .int .i64 t.2]) (ex_load rfl (by kernel_rfl) (ld26 ((BoxAt.ext (hX406.trans hX412) bO392_0).1) ((BoxAt.ext (hX406.trans hX412) bO392_1).1))) ?_
        refine pT (.pointer (some ⟨O415, 0, none⟩)) ?_
        refine pU (.int .i64 m9.1) (ex_load rfl (by kernel_rfl) (ld3 (bO415_0.1))) ?_
        refine pT (.pointer (some ⟨O415, 1, none⟩)) ?_
        refine pU (.int .i64 m9.2) (ex_load rfl (by kernel_rfl) (ld3 (bO415_1.1))) ?_
        refine pU (.agg #[.slice (some ⟨B20, 0, none⟩) 24 24]) (ex_load rfl (by kernel_rfl) (ld31 ((BoxAt.ext (hY423.trans hX412) bO26_tt332).1))) ?_
        refine pS (sn_call (f := 26) (args := #[.agg #[.int .i64 p.p, .int .i64 p.f, .int .i64 p.lo, .int .i64 p.hi, .int .i64 p.nd, .int .i64 p.tn, .int .i64 p.sl], .agg #[.int .i64 t.1, .int .i64 t.2], .int .i64 m9.1, .int .i64 m9.2, .agg #[.slice (some ⟨B20, 0, none⟩) 24 24]]) (by kernel_rfl) ((Best_u p t m9.1 m9.2 _ _ (RowsAt.va (hrtt331.ext (hY423.trans hX412)) hvA) (Ext.refl _)).mono ?_))
        rintro e w424 ⟨rfl, hb⟩
        replace hE := hE.trans hb; replace hX412 := hX412.trans hb; replace bO415_0 := BoxAt.ext hb bO415_0; replace bO415_1 := BoxAt.ext hb bO415_1; have hs425 := hb.size; clear hb
        refine ⟨_, rfl, ?_⟩
        refine pT (.tuple #[.agg #[.int .i64 ((bestU p t m9.1 m9.2 LA).1.1 : Int), .int .i64 ((bestU p t m9.1 m9.2 LA).1.2 : Int)], .int .i64 ((bestU p t m9.1 m9.2 LA).2.1 : Int), .bool ((bestU p t m9.1 m9.2 LA).2.2), .int .i64 (bestE p t m9.1 m9.2 : Int)]) ?_; refine pT (.agg #[.int .i64 ((bestU p t m9.1 m9.2 LA).1.1 : Int), .int .i64 ((bestU p t m9.1 m9.2 LA).1.2 : Int)]) ?_; refine pT (.int .i64 ((bestU p t m9.1 m9.2 LA).2.1 : Int)) ?_; refine pT (.bool ((bestU p t m9.1 m9.2 LA).2.2)) ?_; refine pT (.int .i64 (bestE p t m9.1 m9.2 : Int)) ?_
        refine pS (sn_new (us := #[.int .i64 0, .int .i64 0]) (t := 26) (by kernel_rfl) ?_)
        intro O426 X427 hzO426 hyO426 hb hbx; have ⟨bO426_0, bO426_1⟩ := bx2 hbx; clear hbx
        replace hE := hE.trans hb; replace hX412 := hX412.trans hb; replace bO415_0 := BoxAt.ext hb bO415_0; replace bO415_1 := BoxAt.ext hb bO415_1; have hs428 := hb.size; clear hb; have lt429 := bO426_0.lt
        refine pP (sn_set2 (O := O426) (j := 0) (v := .int .i64 ((bestU p t m9.1 m9.2 LA).1.1 : Int)) (v' := .int .i64 ((bestU p t m9.1 m9.2 LA).1.2 : Int)) (ex_store (p := .pointer (some ⟨O426, 0, none⟩)) (v := .agg #[.int .i64 ((bestU p t m9.1 m9.2 LA).1.1 : Int), .int .i64 ((bestU p t m9.1 m9.2 LA).1.2 : Int)]) rfl (by kernel_rfl) (by kernel_rfl) (st26 bO426_0.1 bO426_0.2 bO426_1.1 bO426_1.2)) bO426_0 bO426_1 ?_)
        intro X430 ho hv0 hv1 hk; replace hE := ho.ext hE (T (T hs3 (T hs7 (T hs11 (T hs15 (T hs19 (T hs24 (T hs28 (T hs31 (T hs33 (T hs36 (T hs39 (T hs42 (T hs45 (T hs48 (T hn73 (T hs80 (T hs130 (T hs143 (T hs146 (T hs150 (T hs153 (T hs377 (T hs381 (T hs384 (T hs394 (T hs397 (T hs404 (T hs407 (T hs417 (T hs420 hs425)))))))))))))))))))))))))))))) (Nat.le_of_eq hzO426)); replace hX412 := ho.ext hX412 (T (T hs417 (T hs420 hs425)) (Nat.le_of_eq hzO426))
        have q9 := fun (j : Nat) (v : Value) (h : BoxAt _ O415 j v) => ho.box (Nat.ne_of_gt (Nat.lt_of_lt_of_le lt418 (T (T hs420 hs425) (Nat.le_of_eq hzO426)))) h
        replace bO415_0 := q9 _ _ bO415_0; replace bO415_1 := q9 _ _ bO415_1; clear q9; have hs431 : X427.heap.size ≤ X430.heap.size := Nat.le_of_eq ho.size.symm; clear ho hk bO426_0 bO426_1; have bO426_0 := hv0; clear hv0; have bO426_1 := hv1; clear hv1; refine pT (.int .i64 ((bestU p t m9.1 m9.2 LA).2.1 : Int)) ?_; refine pT (.bool ((bestU p t m9.1 m9.2 LA).2.2)) ?_; refine pT (.int .i64 (bestE p t m9.1 m9.2 : Int)) ?_; refine pl_nil ?_; refine qw_then ?_; refine cC26 3 4 6 7 11 14 19 20 22 23 25 47 49 50 51 52 53 87 88 89 237 238 239 252 253 254 (fun L => ?_); refine cw_seq ?_; have hX432 : Ext X430 X430 := Ext.refl _; refine cw_plain ?_
        have hY433 := hX406.trans hX412
        have hY434 := hX389.trans hY433
        have hY435 := hX383.trans hY434
        have hY436 := hX378.trans hY435
        refine pU (.agg #[.int .i64 p.p, .int .i64 p.f, .int .i64 p.lo, .int .i64 p.hi, .int .i64 p.nd, .int .i64 p.tn, .int .i64 p.sl]) (ex_load rfl (by kernel_rfl) (ld24 ((BoxAt.ext (hY436.trans hX432) bO141_t366).1) ((BoxAt.ext (hY436.trans hX432) bO141_t367).1) ((BoxAt.ext (hY436.trans hX432) bO141_t368).1) ((BoxAt.ext (hY436.trans hX432) bO141_t369).1) ((BoxAt.ext (hY436.trans hX432) bO141_t370).1) ((BoxAt.ext (hY436.trans hX432) bO141_t371).1) ((BoxAt.ext (hY436.trans hX432) bO141_t372).1))) ?_
        refine pU (.agg #[.int .i64 t.1, .int .i64 t.2]) (ex_load rfl (by kernel_rfl) (ld26 ((BoxAt.ext (hY433.trans hX432) bO392_0).1) ((BoxAt.ext (hY433.trans hX432) bO392_1).1))) ?_
        refine pT (.pointer (some ⟨O415, 0, none⟩)) ?_
        refine pU (.int .i64 m9.1) (ex_load rfl (by kernel_rfl) (ld3 (bO415_0.1))) ?_
        refine pT (.pointer (some ⟨O415, 1, none⟩)) ?_
        refine pU (.int .i64 m9.2) (ex_load rfl (by kernel_rfl) (ld3 (bO415_1.1))) ?_
        refine pU (.agg #[.slice (some ⟨B20, 0, none⟩) 24 24]) (ex_load rfl (by kernel_rfl) (ld31 ((BoxAt.ext (hY436.trans hX432) bO26_tt332).1))) ?_
        refine pS (sn_call (f := 27) (args := #[.agg #[.int .i64 p.p, .int .i64 p.f, .int .i64 p.lo, .int .i64 p.hi, .int .i64 p.nd, .int .i64 p.tn, .int .i64 p.sl], .agg #[.int .i64 t.1, .int .i64 t.2], .int .i64 m9.1, .int .i64 m9.2, .agg #[.slice (some ⟨B20, 0, none⟩) 24 24]]) (by kernel_rfl) ((rBest_u p t m9.1 m9.2 _ _ (RowsAt.va (hrtt331.ext (hY436.trans hX432)) hvA) (Ext.refl _)).mono ?_))
        rintro e w437 ⟨rfl, hb⟩
        replace hE := hE.trans hb; replace hX432 := hX432.trans hb; have hs438 := hb.size; clear hb
        refine ⟨_, rfl, ?_⟩
        refine pT (.tuple #[.agg #[.int .i64 ((bestU p t m9.1 m9.2 LA).1.1 : Int), .int .i64 ((bestU p t m9.1 m9.2 LA).1.2 : Int)], .int .i64 ((bestU p t m9.1 m9.2 LA).2.1 : Int), .bool ((bestU p t m9.1 m9.2 LA).2.2), .int .i64 (bestE p t m9.1 m9.2 : Int)]) ?_; refine pT (.agg #[.int .i64 ((bestU p t m9.1 m9.2 LA).1.1 : Int), .int .i64 ((bestU p t m9.1 m9.2 LA).1.2 : Int)]) ?_; refine pT (.int .i64 ((bestU p t m9.1 m9.2 LA).2.1 : Int)) ?_; refine pT (.bool ((bestU p t m9.1 m9.2 LA).2.2)) ?_; refine pT (.int .i64 (bestE p t m9.1 m9.2 : Int)) ?_
        refine pS (sn_new (us := #[.int .i64 0, .int .i64 0]) (t := 26) (by kernel_rfl) ?_)
        intro O439 X440 hzO439 hyO439 hb hbx; have ⟨bO439_0, bO439_1⟩ := bx2 hbx; clear hbx
        replace hE := hE.trans hb; replace hX432 := hX432.trans hb; have hs441 := hb.size; clear hb; have lt442 := bO439_0.lt
        refine pP (sn_set2 (O := O439) (j := 0) (v := .int .i64 ((bestU p t m9.1 m9.2 LA).1.1 : Int)) (v' := .int .i64 ((bestU p t m9.1 m9.2 LA).1.2 : Int)) (ex_store (p := .pointer (some ⟨O439, 0, none⟩)) (v := .agg #[.int .i64 ((bestU p t m9.1 m9.2 LA).1.1 : Int), .int .i64 ((bestU p t m9.1 m9.2 LA).1.2 : Int)]) rfl (by kernel_rfl) (by kernel_rfl) (st26 bO439_0.1 bO439_0.2 bO439_1.1 bO439_1.2)) bO439_0 bO439_1 ?_)
        intro X443 ho hv0 hv1 hk; replace hE := ho.ext hE (T (T hs3 (T hs7 (T hs11 (T hs15 (T hs19 (T hs24 (T hs28 (T hs31 (T hs33 (T hs36 (T hs39 (T hs42 (T hs45 (T hs48 (T hn73 (T hs80 (T hs130 (T hs143 (T hs146 (T hs150 (T hs153 (T hs377 (T hs381 (T hs384 (T hs394 (T hs397 (T hs404 (T hs407 (T hs417 (T hs420 (T hs425 (T hs428 (T hs431 hs438))))))))))))))))))))))))))))))))) (Nat.le_of_eq hzO439)); replace hX432 := ho.ext hX432 (T hs438 (Nat.le_of_eq hzO439)); have hs444 : X440.heap.size ≤ X443.heap.size := Nat.le_of_eq ho.size.symm; clear ho hk bO439_0 bO439_1; have bO439_0 := hv0; clear hv0; have bO439_1 := hv1; clear hv1; refine pT (.int .i64 ((bestU p t m9.1 m9.2 LA).2.1 : Int)) ?_; refine pT (.bool ((bestU p t m9.1 m9.2 LA).2.2)) ?_; refine pT (.int .i64 (bestE p t m9.1 m9.2 : Int)) ?_; refine pl_nil ?_; refine qw_then ?_; refine cC29 3 4 6 7 11 14 19 20 22 23 25 47 50 51 52 53 54 55 56 57 87 88 89 237 238 239 252 253 254 (fun L => ?_); refine cw_seq ?_; refine cw_plain ?_
        refine pU (.agg #[.int .i64 ((bestU p t m9.1 m9.2 LA).1.1 : Int), .int .i64 ((bestU p t m9.1 m9.2 LA).1.2 : Int)]) (ex_load rfl (by kernel_rfl) (ld26 ((BoxAt.ext hX432 bO426_0).1) ((BoxAt.ext hX432 bO426_1).1))) ?_
        refine pU (.agg #[.int .i64 ((bestU p t m9.1 m9.2 LA).1.1 : Int), .int .i64 ((bestU p t m9.1 m9.2 LA).1.2 : Int)]) (ex_load rfl (by kernel_rfl) (ld26 (bO439_0.1) (bO439_1.1))) ?_
        refine pU (.bool false) (neSpell (a := ((bestU p t m9.1 m9.2 LA).1.1)) (b := ((bestU p t m9.1 m9.2 LA).1.2)) rfl (by kernel_rfl) (by kernel_rfl)) ?_
        refine pT (.bool false) ?_; refine pT (.int .i64 ((bestU p t m9.1 m9.2 LA).2.1 : Int)) ?_; refine pT (.int .i64 ((bestU p t m9.1 m9.2 LA).2.1 : Int)) ?_
        refine pU (.bool false) (ev_nne (show _ = Result.ok (Next.value (Value.bool (((bestU p t m9.1 m9.2 LA).2.1 : Int) != ((bestU p t m9.1 m9.2 LA).2.1 : Int)))) _ from by kernel_rfl) (rfl)) ?_
        refine pT (.bool false) ?_; refine pT (.bool false) ?_; refine pT (.bool ((bestU p t m9.1 m9.2 LA).2.2)) ?_; refine pT (.bool ((bestU p t m9.1 m9.2 LA).2.2)) ?_
        refine pU (.bool false) (ev_bool (show _ = Result.ok (Next.value (Value.bool (((bestU p t m9.1 m9.2 LA).2.2) != ((bestU p t m9.1 m9.2 LA).2.2)))) _ from by kernel_rfl) (bne_self_eq_false _)) ?_
        refine pT (.bool false) ?_; refine pT (.bool false) ?_; refine pT (.int .i64 (bestE p t m9.1 m9.2 : Int)) ?_; refine pT (.int .i64 (bestE p t m9.1 m9.2 : Int)) ?_
        refine pU (.bool false) (ev_nne (show _ = Result.ok (Next.value (Value.bool ((bestE p t m9.1 m9.2 : Int) != (bestE p t m9.1 m9.2 : Int)))) _ from by kernel_rfl) (rfl)) ?_
        refine pT (.bool false) ?_; refine pl_nil ?_; refine qw_then ?_; refine cC22 3 4 6 7 11 14 19 20 22 23 25 47 87 88 89 237 238 239 252 253 254 301 (fun L => ?_)
        refine cw_f (by kernel_rfl) ?_
        refine cw_skip ?_
        refine qw_block ?_
        exact qw_leaf hJ [3, 4, 6, 7, 11, 14, 19, 20, 22, 23, 25, 47, 87, 88, 89, 237, 238, 239, 252, 253, 254] (ws' := [(3, .int .i64 look), (4, .int .i64 late), (6, .int .i64 mn), (7, .int .i64 wd), (11, .pointer (some ⟨O9, 0, none⟩)), (14, .pointer (some ⟨O13, 0, none⟩)), (19, .bool true), (20, .pointer (some ⟨O26, 0, none⟩)), (22, .pointer (some ⟨O43, 0, none⟩)), (23, .pointer (some ⟨O54, 0, none⟩)), (25, .pointer (some ⟨O141, 0, none⟩)), (47, .pointer (some ⟨O392, 0, none⟩)), (87, .slice (some ⟨O78, 0, none⟩) 2 2), (88, .int .i64 2), (89, .int .i64 (((i1 : Nat) : Int) : Int)), (237, .slice (some ⟨O379, 0, none⟩) 2 2), (238, .int .i64 2), (239, .int .i64 (((i5 : Nat) : Int) : Int)), (252, .slice (some ⟨O402, 0, none⟩) 2 2), (253, .int .i64 2), (254, .int .i64 (((i6 : Nat) : Int) : Int))]) (by kernel_rfl) ⟨rfl, (T hs417 (T hs420 (T hs425 (T hs428 (T hs431 (T hs438 (T hs441 hs444))))))), hE, (hX412.trans hX432)⟩
       ·
        clear hE hX412
        rintro L ws w445 ⟨rfl, hs413, hE, hX412⟩
        refine qw_then ?_; refine cC21 3 4 6 7 11 14 19 20 22 23 25 47 87 88 89 237 238 239 252 253 254 (fun L => ?_); refine cw_plain ?_
        refine pU (.int .i64 (((i6 + 1 : Nat) : Int) : Int)) (ev_wrap (by kernel_rfl) (by omega) (by omega)) ?_
        refine pT (.int .i64 (((i6 + 1 : Nat) : Int) : Int)) ?_; refine pl_nil ?_
        refine qw_round [3, 4, 6, 7, 11, 14, 19, 20, 22, 23, 25, 47, 87, 88, 89, 237, 238, 239, 252, 253, 254] (ws' := [(3, .int .i64 look), (4, .int .i64 late), (6, .int .i64 mn), (7, .int .i64 wd), (11, .pointer (some ⟨O9, 0, none⟩)), (14, .pointer (some ⟨O13, 0, none⟩)), (19, .bool true), (20, .pointer (some ⟨O26, 0, none⟩)), (22, .pointer (some ⟨O43, 0, none⟩)), (23, .pointer (some ⟨O54, 0, none⟩)), (25, .pointer (some ⟨O141, 0, none⟩)), (47, .pointer (some ⟨O392, 0, none⟩)), (87, .slice (some ⟨O78, 0, none⟩) 2 2), (88, .int .i64 2), (89, .int .i64 (((i1 : Nat) : Int) : Int)), (237, .slice (some ⟨O379, 0, none⟩) 2 2), (238, .int .i64 2), (239, .int .i64 (((i5 : Nat) : Int) : Int)), (252, .slice (some ⟨O402, 0, none⟩) 2 2), (253, .int .i64 2), (254, .int .i64 (((i6 + 1 : Nat) : Int) : Int))]) (by kernel_rfl) _ ?_ ⟨(i6 + 1), rfl, rfl, (T hs407 hs413), hE, (hX406.trans hX412), by omega⟩
        omega
      ·
       refine cw_seq ?_; refine cw_plain ?_
       refine pU (.bool false) (ev_ndec (show _ = Result.ok (Next.value (Value.bool (decide ((((i6 : Nat) : Int) : Int) < (2 : Int))))) _ from by kernel_rfl) (by omega)) ?_
       refine pl_nil ?_; refine qw_then ?_; refine cC22 3 4 6 7 11 14 19 20 22 23 25 47 87 88 89 237 238 239 252 253 254 255 (fun L => ?_); refine cw_seq ?_
       refine cw_f (by kernel_rfl) ?_
       refine cw_exit ?_
       refine qw_then_exit ?_
       refine qw_then_exit ?_
       refine qw_block_out ?_
       refine qw_block ?_
       exact qw_leaf hJ [3, 4, 6, 7, 11, 14, 19, 20, 22, 23, 25, 87, 88, 89, 237, 238, 239] (ws' := [(3, .int .i64 look), (4, .int .i64 late), (6, .int .i64 mn), (7, .int .i64 wd), (11, .pointer (some ⟨O9, 0, none⟩)), (14, .pointer (some ⟨O13, 0, none⟩)), (19, .bool true), (20, .pointer (some ⟨O26, 0, none⟩)), (22, .pointer (some ⟨O43, 0, none⟩)), (23, .pointer (some ⟨O54, 0, none⟩)), (25, .pointer (some ⟨O141, 0, none⟩)), (87, .slice (some ⟨O78, 0, none⟩) 2 2), (88, .int .i64 2), (89, .int .i64 (((i1 : Nat) : Int) : Int)), (237, .slice (some ⟨O379, 0, none⟩) 2 2), (238, .int .i64 2), (239, .int .i64 (((i5 : Nat) : Int) : Int))]) (by kernel_rfl) ⟨rfl, (T hs394 (T hs397 (T hs404 hs407))), hE, (hX389.trans hX406)⟩
     ·
      clear hE hX389
      rintro L ws w446 ⟨rfl, hs390, hE, hX389⟩
      refine qw_then ?_; refine cC17 3 4 6 7 11 14 19 20 22 23 25 87 88 89 237 238 239 (fun L => ?_); refine cw_plain ?_
      refine pU (.int .i64 (((i5 + 1 : Nat) : Int) : Int)) (ev_wrap (by kernel_rfl) (by omega) (by omega)) ?_
      refine pT (.int .i64 (((i5 + 1 : Nat) : Int) : Int)) ?_; refine pl_nil ?_
      refine qw_round [3, 4, 6, 7, 11, 14, 19, 20, 22, 23, 25, 87, 88, 89, 237, 238, 239] (ws' := [(3, .int .i64 look), (4, .int .i64 late), (6, .int .i64 mn), (7, .int .i64 wd), (11, .pointer (some ⟨O9, 0, none⟩)), (14, .pointer (some ⟨O13, 0, none⟩)), (19, .bool true), (20, .pointer (some ⟨O26, 0, none⟩)), (22, .pointer (some ⟨O43, 0, none⟩)), (23, .pointer (some ⟨O54, 0, none⟩)), (25, .pointer (some ⟨O141, 0, none⟩)), (87, .slice (some ⟨O78, 0, none⟩) 2 2), (88, .int .i64 2), (89, .int .i64 (((i1 : Nat) : Int) : Int)), (237, .slice (some ⟨O379, 0, none⟩) 2 2), (238, .int .i64 2), (239, .int .i64 (((i5 + 1 : Nat) : Int) : Int))]) (by kernel_rfl) _ ?_ ⟨(i5 + 1), rfl, rfl, (T hs384 hs390), hE, (hX383.trans hX389), by omega⟩
      omega
    ·
     refine cw_seq ?_; refine cw_plain ?_
     refine pU (.bool false) (ev_ndec (show _ = Result.ok (Next.value (Value.bool (decide ((((i5 : Nat) : Int) : Int) < (2 : Int))))) _ from by kernel_rfl) (by omega)) ?_
     refine pl_nil ?_; refine qw_then ?_; refine cC18 3 4 6 7 11 14 19 20 22 23 25 87 88 89 237 238 239 240 (fun L => ?_); refine cw_seq ?_
     refine cw_f (by kernel_rfl) ?_
     refine cw_exit ?_
     refine qw_then_exit ?_
     refine qw_then_exit ?_
     refine qw_block_out ?_
     refine qw_block ?_
     refine qw_then ?_; refine cC13 3 4 6 7 11 14 19 20 22 23 87 88 89 (fun L => ?_); refine cw_plain ?_
     refine pU (.int .i64 (((i1 + 1 : Nat) : Int) : Int)) (ev_wrap (by kernel_rfl) (by omega) (by omega)) ?_
     refine pT (.int .i64 (((i1 + 1 : Nat) : Int) : Int)) ?_; refine pl_nil ?_
     refine qw_round [3, 4, 6, 7, 11, 14, 19, 20, 22, 23, 87, 88, 89] (ws' := [(3, .int .i64 look), (4, .int .i64 late), (6, .int .i64 mn), (7, .int .i64 wd), (11, .pointer (some ⟨O9, 0, none⟩)), (14, .pointer (some ⟨O13, 0, none⟩)), (19, .bool true), (20, .pointer (some ⟨O26, 0, none⟩)), (22, .pointer (some ⟨O43, 0, none⟩)), (23, .pointer (some ⟨O54, 0, none⟩)), (87, .slice (some ⟨O78, 0, none⟩) 2 2), (88, .int .i64 2), (89, .int .i64 (((i1 + 1 : Nat) : Int) : Int))]) (by kernel_rfl) _ ?_ ⟨(i1 + 1), (min (zt : Int) (IntKind.i64.wrap (max sn.1 0 + 80) : Int)), rfl, rfl, (T hs130 (T hs143 (T hs146 (T hs150 (T hs153 (T hs377 (T hs381 hs384))))))), hE, (BoxAt.ext (hX378.trans hX383) bO1_tt314), (BoxAt.ext (hX378.trans hX383) bO1_tt315), (BoxAt.ext (hX378.trans hX383) bO1_tt316), (BoxAt.ext (hX378.trans hX383) bO1_tt317), (BoxAt.ext (hX378.trans hX383) bO1_tt318), (BoxAt.ext (hX378.trans hX383) bO1_tt319), (BoxAt.ext (hX378.trans hX383) bO1_tt320), (BoxAt.ext (hX378.trans hX383) bO5_tt321), (BoxAt.ext (hX378.trans hX383) bO5_tt322), (BoxAt.ext (hX378.trans hX383) bO5_tt323), (BoxAt.ext (hX378.trans hX383) bO5_tt324), (BoxAt.ext (hX378.trans hX383) bO5_tt325), (BoxAt.ext (hX378.trans hX383) bO5_tt326), (BoxAt.ext (hX378.trans hX383) bO5_tt327), (BoxAt.ext (hX378.trans hX383) bO9_tt328), (BoxAt.ext (hX378.trans hX383) bO9_tt329), (BoxAt.ext (hX378.trans hX383) bO13_tt330), (hrtt331.ext (hX378.trans hX383)), (BoxAt.ext (hX378.trans hX383) bO26_tt332), (BoxAt.ext (hX378.trans hX383) bO34_tt333), (BoxAt.ext (hX378.trans hX383) bO34_tt334), (BoxAt.ext (hX378.trans hX383) bO34_tt335), (BoxAt.ext (hX378.trans hX383) bO34_tt336), (BoxAt.ext (hX378.trans hX383) bO34_tt337), (BoxAt.ext (hX378.trans hX383) bO34_tt338), (BoxAt.ext (hX378.trans hX383) bO34_tt339), (BoxAt.ext (hX378.trans hX383) bO43_tt340), (BoxAt.ext (hX378.trans hX383) bO43_tt341), (BoxAt.ext (hX378.trans hX383) bO54_tt342), (BoxAt.ext (hX378.trans hX383) bO54_tt343), (BoxAt.ext (hX378.trans hX383) bO78_tt344), (BoxAt.ext (hX378.trans hX383) bO78_tt345), (BoxAt.ext (hX378.trans hX383) bO78_tt346), (BoxAt.ext (hX378.trans hX383) bO78_tt347), (BoxAt.ext (hX378.trans hX383) bO78_tt348), (BoxAt.ext (hX378.trans hX383) bO78_tt349), (BoxAt.ext (hX378.trans hX383) bO78_tt350), (BoxAt.ext (hX378.trans hX383) bO78_tt351), (BoxAt.ext (hX378.trans hX383) bO78_tt352), (BoxAt.ext (hX378.trans hX383) bO78_tt353), (BoxAt.ext (hX378.trans hX383) bO78_tt354), (BoxAt.ext (hX378.trans hX383) bO78_tt355), (BoxAt.ext (hX378.trans hX383) bO78_tt356), (BoxAt.ext (hX378.trans hX383) bO78_tt357), (BoxAt.ext (hX378.trans hX383) hztt358), by omega⟩
     omega
  ·
   refine cw_seq ?_; have hX447 : Ext w131 w131 := Ext.refl _; refine cw_plain ?_
   refine pU (.bool false) (ev_ndec (show _ = Result.ok (Next.value (Value.bool (decide ((((i1 : Nat) : Int) : Int) < (2 : Int))))) _ from by kernel_rfl) (by omega)) ?_
   refine pl_nil ?_; refine qw_then ?_; refine cw_seq ?_
   refine cw_f (by kernel_rfl) ?_
   refine cw_exit ?_
   refine qw_then_exit ?_
   refine qw_then_exit ?_
   refine qw_block_out ?_
   refine qw_then ?_; refine cw_seq ?_; refine cw_plain ?_; refine pT (.bool true) ?_; refine pT (.bool true) ?_; refine pl_nil ?_; refine qw_then ?_; refine cC1 18 (fun L => ?_)
   refine cw_ret ?_
   refine qw_ret [.bool true] rfl ⟨(by kernel_rfl), trivial⟩ ?_
   exact ⟨rfl, hE⟩

end Go.Proofs.Ytdjjkhefdalokaa

/- Openers: an orbit, a spell, rows of four ints. -/
namespace Go.Proofs.Ytdjjkhefdalokaa
open Go.ChangeShapes Go.WideShapes Go.ChangeAt Go.RowKit Go.Deep

def Quads (w : World) (v : Value) : Prop := ∃ (a : Option Addr) (n c : Nat) (q : Nat → Nat → Int), v = .slice a n c ∧ n ≤ c ∧ c ≤ 9223372036854775807 ∧ QAt w a n q
def OrbV (v : Value) : Prop := ∃ o : Orb, v = .agg #[.int .i64 o.p, .int .i64 o.f, .int .i64 o.lo, .int .i64 o.hi, .int .i64 o.nd, .int .i64 o.tn, .int .i64 o.sl]

section
variable {H : Type} {enc : TypeId × Value → H} {W : World}
set_option maxRecDepth 100000 in
theorem open_two {b0 : Nat} {t : TypeId} {f0 f1 : Field} {v : Value} {d : DataW H} {p : List MemPlace} (hu : Try.prog.underlying t = some (.struct #[f0, f1])) (h0 : f0.offset = 0) (h1 : f1.offset = 1) (t0 : f0.type = 3) (t1 : f1.type = 3) (h2 : Try.prog.cellsOf t = 2)
  (hval : Value.okWide Try.prog W .any b0 t v) (h : DataW.Trod enc Try.prog W 0 (fun _ => true) true t v d p) : Pair v := by
 obtain ⟨cs, rfl, hsz⟩ := okWide_struct hu hval
 obtain ⟨fuel, hf⟩ := h
 obtain ⟨xs, m, rfl, hx, hlen, hxl, hg⟩ := DataW.trod_struct hu hf
 have hone : Try.prog.cellsOf 3 = 1 := by kernel_rfl
 have g0 := hg 0 f0 rfl
 have g1 := hg 1 f1 rfl
 rw [h0, t0, hone] at g0
 rw [h1, t1, hone] at g1
 have hl : cs.toList.length = 2 := by rw [Array.length_toList, hsz, h2]
 obtain ⟨l⟩ := cs
 match l, hl with
 | [x0, x1], _ =>
  have hxl2 : xs.length = 2 := hxl
  have e0 : xs[0]? = some (xs[0]'(by omega)) := List.getElem?_eq_getElem _
  have e1 : xs[1]? = some (xs[1]'(by omega)) := List.getElem?_eq_getElem _
  rw [e0] at g0
  rw [e1] at g1
  obtain ⟨n0, hn0, _, w0⟩ := DataW.trod_int Try.underlying3 g0
  obtain ⟨n1, hn1, _, w1⟩ := DataW.trod_int Try.underlying3 g1
  simp [Value.cells] at hn0 hn1
  exact ⟨n0, n1, by rw [hn0, hn1], isI_of_wf w0, isI_of_wf w1⟩
set_option maxRecDepth 100000 in
theorem open_orb {b0 : Nat} {v : Value} {d : DataW H} {p : List MemPlace} (hval : Value.okWide Try.prog W .any b0 24 v) (h : DataW.Trod enc Try.prog W 0 (fun _ => true) true 24 v d p) : OrbV v := by
 have hu := Try.underlying24
 obtain ⟨cs, rfl, hsz⟩ := okWide_struct hu hval
 obtain ⟨fuel, hf⟩ := h
 obtain ⟨xs, m, rfl, hx, hlen, hxl, hg⟩ := DataW.trod_struct hu hf
 have hone : Try.prog.cellsOf 3 = 1 := by kernel_rfl
 have h7 : Try.prog.cellsOf 24 = 7 := by kernel_rfl
 have hl : cs.toList.length = 7 := by rw [Array.length_toList, hsz, h7]
 have hxl2 : xs.length = 7 := hxl
 have key : ∀ (j : Nat) (hj : j < 7), ∃ n : Int, ((cs.toList.drop j).take 1) = [Value.int .i64 n] := fun j hj => by
  match j, hj with
  | 0, _ => have g := hg 0 _ rfl; rw [List.getElem?_eq_getElem (show 0 < xs.length by omega)] at g; obtain ⟨n, hn, _⟩ := DataW.trod_int Try.underlying3 g; exact ⟨n, by simpa [Value.cells, hone] using hn⟩
  | 1, _ => have g := hg 1 _ rfl; rw [List.getElem?_eq_getElem (show 1 < xs.length by omega)] at g; obtain ⟨n, hn, _⟩ := DataW.trod_int Try.underlying3 g; exact ⟨n, by simpa [Value.cells, hone] using hn⟩
  | 2, _ => have g := hg 2 _ rfl; rw [List.getElem?_eq_getElem (show 2 < xs.length by omega)] at g; obtain ⟨n, hn, _⟩ := DataW.trod_int Try.underlying3 g; exact ⟨n, by simpa [Value.cells, hone] using hn⟩
  | 3, _ => have g := hg 3 _ rfl; rw [List.getElem?_eq_getElem (show 3 < xs.length by omega)] at g; obtain ⟨n, hn, _⟩ := DataW.trod_int Try.underlying3 g; exact ⟨n, by simpa [Value.cells, hone] using hn⟩
  | 4, _ => have g := hg 4 _ rfl; rw [List.getElem?_eq_getElem (show 4 < xs.length by omega)] at g; obtain ⟨n, hn, _⟩ := DataW.trod_int Try.underlying3 g; exact ⟨n, by simpa [Value.cells, hone] using hn⟩
  | 5, _ => have g := hg 5 _ rfl; rw [List.getElem?_eq_getElem (show 5 < xs.length by omega)] at g; obtain ⟨n, hn, _⟩ := DataW.trod_int Try.underlying3 g; exact ⟨n, by simpa [Value.cells, hone] using hn⟩
  | 6, _ => have g := hg 6 _ rfl; rw [List.getElem?_eq_getElem (show 6 < xs.length by omega)] at g; obtain ⟨n, hn, _⟩ := DataW.trod_int Try.underlying3 g; exact ⟨n, by simpa [Value.cells, hone] using hn⟩
 obtain ⟨l⟩ := cs
 match l, hl with
 | [y0, y1, y2, y3, y4, y5, y6], _ =>
  obtain ⟨n0, e0⟩ := key 0 (by omega)
  obtain ⟨n1, e1⟩ := key 1 (by omega)
  obtain ⟨n2, e2⟩ := key 2 (by omega)
  obtain ⟨n3, e3⟩ := key 3 (by omega)
  obtain ⟨n4, e4⟩ := key 4 (by omega)
  obtain ⟨n5, e5⟩ := key 5 (by omega)
  obtain ⟨n6, e6⟩ := key 6 (by omega)
  simp at e0 e1 e2 e3 e4 e5 e6
  exact ⟨⟨n0, n1, n2, n3, n4, n5, n6⟩, by rw [e0, e1, e2, e3, e4, e5, e6]⟩
set_option maxRecDepth 100000 in
theorem open_quads {b0 : Nat} {v : Value} {d : DataW H} {p : List MemPlace} (hval : Value.okWide Try.prog W .any b0 27 v) (h : DataW.Trod enc Try.prog W 0 (fun _ => true) true 27 v d p) : Quads W v := by
  obtain ⟨a, n, c, rfl⟩ := okWide_slice Try.underlying27 hval
  obtain ⟨fuel, hf⟩ := h
  rcases open_slice Try.underlying27 hf with ⟨hcs, _⟩ | ⟨a', len, cap, m, k, D, Pl, hcs, hb, hl, hm, hmm, _, hx⟩
  · simp [Value.cells] at hcs
    obtain ⟨rfl, rfl, rfl⟩ := hcs
    exact ⟨none, 0, 0, fun _ _ => 0, rfl, by omega, by omega, .inl rfl⟩
  · simp [Value.cells] at hcs
    obtain ⟨rfl, rfl, rfl⟩ := hcs
    unfold maxLen at hm
    rcases Nat.eq_zero_or_pos n with h0 | h0
    · exact ⟨_, _, _, fun _ _ => 0, rfl, by omega, by omega, .inl h0⟩
    · have h4 : Try.prog.cellsOf 63 = 4 := by kernel_rfl
      rw [h4] at hx
      simp only [if_true] at hmm
      subst hmm
      have each : ∀ i, i < n → ∃ q : Nat → Int, ∀ j, j < 4 → W.cell? (a'.add (i * 4 + j)) = some (.int .i64 (q j)) ∧ IsI (q j) := fun i hi => by
        obtain ⟨cs', hc1, hc2⟩ := hx i (by omega)
        obtain ⟨_, hcl, hat⟩ := World.cells?_some hc1
        obtain ⟨q, hq⟩ := ints_of_array Try.underlying63 hc2 hcl
        refine ⟨q, fun j hj => ⟨?_, (hq j hj).2⟩⟩
        rw [← Go.Deep.add_add, hat j hj]
        exact (hq j hj).1
      obtain ⟨q, hq⟩ := choose_lt each
      obtain ⟨b, off, spot⟩ := a'
      have hspot : spot = none := by have := World.cell?_spot (hq 0 h0 0 (by omega)).1; simpa [Addr.add] using this
      subst hspot
      refine ⟨_, _, _, q, rfl, by omega, by omega, .inr ⟨b, off, rfl, fun i hi j hj => ?_⟩⟩
      have := hq i hi j hj
      rw [add_plain, ← Nat.add_assoc] at this
      exact this
end
end Go.Proofs.Ytdjjkhefdalokaa

/- The walk of SwathMatchesReference, over what its arguments read. -/
namespace Go.Proofs.Ytdjjkhefdalokaa
open Go.RowKit
theorem SwathMatchesReference_walk (w : World) (v0 : Value) (op0 : Seven v0) (v1 : Value) (op1 : OrbV v1) (v2 : Value) (op2 : Pair v2) (look : Int) (ilook : IsI look) (late : Int) (ilate : IsI late) (v5 : Value) (op5 : Pair v5) (mn : Int) (imn : IsI mn) (wd : Int) (iwd : IsI wd) (v8 : Value) (op8 : Quads w v8) : Calls Try.prog 3 #[v0, v1, v2, .int .i64 look, .int .i64 late, v5, .int .i64 mn, .int .i64 wd, v8] w fun e w' => e = .returned (.bool true) ∧ Ext w w' := by
 obtain ⟨x0, x1, x2, x3, x4, x5, x6, rfl, ix0, ix1, ix2, ix3, ix4, ix5, ix6⟩ := op0
 obtain ⟨ra, rfl⟩ := op1
 obtain ⟨s1, s2, rfl, is1, is2⟩ := op2
 obtain ⟨t1, t2, rfl, _, it2⟩ := op5
 obtain ⟨a, n, c, q, rfl, hnc, hcm, hQ⟩ := op8
 exact SwathMatchesReference_w x0 x1 x2 x3 x4 x5 x6 look late mn wd ra (s1, s2) (t1, t2) ix0 ix1 ix2 ix3 ix4 ix5 ix6 ilook ilate imn iwd is1 is2 it2 w hQ hnc hcm
end Go.Proofs.Ytdjjkhefdalokaa

/- The statement SwathMatchesReference: for every input the law returns true, and every argument reads as it read before; the two tables of package math/bits that the row lists are tied to the program's text. -/
namespace Go.Proofs.Ytdjjkhefdalokaa
open Go.ChangeShapes Go.WideShapes Go.ChangeAt Go.RowKit

set_option maxRecDepth 100000 in
theorem SwathMatchesReference_lifted (os : Os) (started : os.Started) (H : Type) (enc : TypeId × Value → H) :
  ReturnsInHanded {} Try.checked os 3 .any (Rows.swathMatchesReferenceSpec.pre6 enc Try.prog Try.f3 Rows.swathMatchesReferenceRow.domain false)
   (Rows.swathMatchesReferenceSpec.post enc Try.prog Try.f3 false true false false) := by
 refine returnsInHanded_of_change_sized (C := Try.checked) own started (by kernel_rfl) Try.func3
  (ChangeSpec.witness6 (enc := enc) (C := Try.checked) false ⟨#[], #[.agg #[.int .i64 0, .int .i64 0, .int .i64 0, .int .i64 0, .int .i64 0, .int .i64 0, .int .i64 0], .agg #[.int .i64 0, .int .i64 0, .int .i64 0, .int .i64 0, .int .i64 0, .int .i64 0, .int .i64 0], .agg #[.int .i64 0, .int .i64 0], .int .i64 0, .int .i64 0, .agg #[.int .i64 0, .int .i64 0], .int .i64 0, .int .i64 0, .slice none 0 0], []⟩ 8 (by kernel_rfl) (by kernel_rfl) (by kernel_rfl) (by kernel_rfl)) ?_
 intro W base args ds gs before hval0 hW _ hsz _
 have hval : ∀ (j : Nat) t v, Try.f3.params[j]? = some t → args[j]? = some v → Value.okWide Try.prog W .any base t v := hval0
 have hW' := hW
 obtain ⟨p, q, hA0, hV, rfl, hfz, hnd⟩ := hW
 have hA : DataW.TrodAll enc Try.prog W 0 (fun _ => true) true Try.f3.params.toList args.toList ds p := hA0
 rw [Try.params3] at hA hval
 obtain ⟨v0, vs0, d0, ds0, p0, q0, hargs, rfl, rfl, h0, r0⟩ := trodAll_cons hA
 obtain ⟨v1, vs1, d1, ds1, p1, q1, rfl, rfl, rfl, h1, r1⟩ := trodAll_cons r0
 obtain ⟨v2, vs2, d2, ds2, p2, q2, rfl, rfl, rfl, h2, r2⟩ := trodAll_cons r1
 obtain ⟨v3, vs3, d3, ds3, p3, q3, rfl, rfl, rfl, h3, r3⟩ := trodAll_cons r2
 obtain ⟨v4, vs4, d4, ds4, p4, q4, rfl, rfl, rfl, h4, r4⟩ := trodAll_cons r3
 obtain ⟨v5, vs5, d5, ds5, p5, q5, rfl, rfl, rfl, h5, r5⟩ := trodAll_cons r4
 obtain ⟨v6, vs6, d6, ds6, p6, q6, rfl, rfl, rfl, h6, r6⟩ := trodAll_cons r5
 obtain ⟨v7, vs7, d7, ds7, p7, q7, rfl, rfl, rfl, h7, r7⟩ := trodAll_cons r6
 obtain ⟨v8, vs8, d8, ds8, p8, q8, rfl, rfl, rfl, h8, r8⟩ := trodAll_cons r7
 obtain ⟨rfl, rfl, rfl⟩ := trodAll_nil r8
 obtain rfl : args = #[v0, v1, v2, v3, v4, v5, v6, v7, v8] := by cases args; simp_all
 obtain ⟨rfl, rfl⟩ := trodVars_none hV
 have k0 := h0
 have lt0 : ∀ x ∈ p0, x.block < W.heap.size := by obtain ⟨m, hm⟩ := k0; exact DataW.trod_lt m _ _ _ hm
 have op0 := open_seven (hval 0 _ v0 rfl rfl) h0
 have k1 := h1
 have lt1 : ∀ x ∈ p1, x.block < W.heap.size := by obtain ⟨m, hm⟩ := k1; exact DataW.trod_lt m _ _ _ hm
 have op1 := open_orb (hval 1 _ v1 rfl rfl) h1
 have k2 := h2
 have lt2 : ∀ x ∈ p2, x.block < W.heap.size := by obtain ⟨m, hm⟩ := k2; exact DataW.trod_lt m _ _ _ hm
 have op2 := open_two Try.underlying26 rfl rfl rfl rfl (by kernel_rfl) (hval 2 _ v2 rfl rfl) h2
 obtain ⟨a3, rfl, rfl, rfl, w3⟩ := open_int Try.underlying3 (hval 3 3 v3 rfl rfl) h3
 obtain ⟨a4, rfl, rfl, rfl, w4⟩ := open_int Try.underlying3 (hval 4 3 v4 rfl rfl) h4
 have k5 := h5
 have lt5 : ∀ x ∈ p5, x.block < W.heap.size := by obtain ⟨m, hm⟩ := k5; exact DataW.trod_lt m _ _ _ hm
 have op5 := open_two Try.underlying26 rfl rfl rfl rfl (by kernel_rfl) (hval 5 _ v5 rfl rfl) h5
 obtain ⟨a6, rfl, rfl, rfl, w6⟩ := open_int Try.underlying3 (hval 6 3 v6 rfl rfl) h6
 obtain ⟨a7, rfl, rfl, rfl, w7⟩ := open_int Try.underlying3 (hval 7 3 v7 rfl rfl) h7
 have k8 := h8
 have lt8 : ∀ x ∈ p8, x.block < W.heap.size := by obtain ⟨m, hm⟩ := k8; exact DataW.trod_lt m _ _ _ hm
 have op8 := open_quads (hval 8 _ v8 rfl rfl) h8
 clear hA0 hval0
 refine (SwathMatchesReference_walk W v0 op0 v1 op1 v2 op2 a3 (isI_of_wf w3) a4 (isI_of_wf w4) v5 op5 a6 (isI_of_wf w6) a7 (isI_of_wf w7) v8 op8).mono fun e W' ⟨he, hE⟩ => ?_
 subst he
 have bel : Below W.heap.size W W' := hE
 exact ⟨_, rfl, _, _, _, [], _, [], hW', trodAll_mk1 (shut_bool Try.underlying4 _), (trodAll_cons_mk (Below.trod laidOut (by kernel_rfl) (of_decide_eq_true (by kernel_rfl)) k0 bel lt0) (trodAll_cons_mk (Below.trod laidOut (by kernel_rfl) (of_decide_eq_true (by kernel_rfl)) k1 bel lt1) (trodAll_cons_mk (Below.trod laidOut (by kernel_rfl) (of_decide_eq_true (by kernel_rfl)) k2 bel lt2) (trodAll_cons_mk (shut_int Try.underlying3 w3) (trodAll_cons_mk (shut_int Try.underlying3 w4) (trodAll_cons_mk (Below.trod laidOut (by kernel_rfl) (of_decide_eq_true (by kernel_rfl)) k5 bel lt5) (trodAll_cons_mk (shut_int Try.underlying3 w6) (trodAll_cons_mk (shut_int Try.underlying3 w7) (trodAll_cons_mk (Below.trod laidOut (by kernel_rfl) (of_decide_eq_true (by kernel_rfl)) k8 bel lt8) trodAll_mk0))))))))), rfl, bel.frame _, fun h => by cases h⟩

theorem SwathMatchesReference_over : Rows.SwathMatchesReferenceSaid :=
 OpenClaim.holds_of_wide 3 Try.f3 rfl rfl rfl rfl rfl rfl rfl ⟨rfl, rfl, rfl, rfl, rfl⟩ rfl rfl rfl rfl rfl (by kernel_rfl) Try.func3 (by kernel_rfl)
  (of_decide_eq_true (by kernel_rfl)) (by unfold Func.isWrapper; first | (rw [if_pos (by decide +kernel)]; kernel_rfl) | (rw [if_neg (by decide +kernel)]; exact ⟨rfl, rfl⟩))
  (fun os started H enc _ => SwathMatchesReference_lifted os started H enc)

theorem SwathMatchesReference_holds : Rows.SwathMatchesReferenceSaid := SwathMatchesReference_over
#print axioms SwathMatchesReference_holds
end Go.Proofs.Ytdjjkhefdalokaa
