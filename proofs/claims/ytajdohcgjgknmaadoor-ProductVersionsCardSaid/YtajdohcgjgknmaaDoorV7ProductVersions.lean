/- Part 7 of what the proof of ProductVersions stands on. -/
import Derived.Test.YtajdohcgjgknmaaDoorV6ProductVersions
import Derived.Test.YtajdohcgjgknmaaDoorTie
import Derived.Test.YtajdohcgjgknmaaDoorCards
import Derived.ProofKit
import Derived.OpenShut
import Derived.ChangeOld
import Derived.LaidMore
import Derived.Stop.Joined
import Derived.Stop.LaidErr
import Derived.Lib.LaidTab
import Derived.SevenTiedAt
/- The examples of chapter 31. -/
namespace Go.Proofs.YtajdohcgjgknmaaDoor
open Go.RowKit

theorem PcsS.both {m : Nat} {w : World} {a : Option Addr} {n : Nat} {l : List Prod.Pc} (h : PcsS (fun k => m ≤ k) w a n l) : PcsS (fun k => m ≤ k ∧ k < w.heap.size) w a n l := by
  obtain ⟨rs, h1, h2, h3, h4⟩ := h
  have h9 := PcsAt.now ⟨rs, h1, h2⟩
  refine ⟨rs, h1, h2, fun q ad e => ⟨h3 q ad e, ?_⟩, fun x hx q ad e => ⟨h4 x hx q ad e, ?_⟩⟩
  · obtain ⟨g1, g2, g3⟩ := h1
    rcases g3 with g3 | ⟨b, o, e', hx⟩
    · omega
    · rw [e] at e'; cases e'
      exact World.block_lt_of_cell? _ _ (hx 0 _ (List.getElem?_eq_getElem (by omega))).1
  · obtain ⟨i, hi⟩ := List.getElem?_of_mem hx
    obtain ⟨p, hp, e1, e2, e3, e4⟩ := h2.at hi
    exact aa_lt e4 q ad e
def rowL (bits : Int) : List Int := bits :: List.replicate 23 0
set_option maxHeartbeats 4000000 in
theorem row_c (bits : Int) (w : World) : Calls Tryd.prog 26 #[.int .i64 bits] w (RetA w (rowL bits)) := by
 have hmk := make24
 go_enter Tryd.func26, Tryd.ntmps26
 go_wp2
 refine bodyPost_ret (v := .agg #[.slice (some ⟨w.heap.size + 1, 0, none⟩) 24 24]) (by simp [results, Tryd.results26, go_sem]) rfl ⟨w.heap.size + 1, rfl, by omega, ?_, by (repeat' (first | (with_reducible assumption) | (with_reducible exact Ext.refl _) | (with_reducible refine Ext.alloc ?_ _) | (with_reducible refine Ext.drew ?_) | (with_reducible refine Ext.drewN ?_ _) | (with_reducible refine Ext.setCell ?_ ?_ _) | (with_reducible refine Ext.trans ?_ (by assumption)) | go_size))⟩
 have h9 := RowsAt.new (w.alloc (.cells #[.slice (some ⟨w.heap.size + 1, 0, none⟩) 24 24] 26)) (rowL bits) 3 rfl
 rw [World.size_alloc] at h9
 exact h9.ext (Ext.alloc (Ext.refl _) _)
theorem RetB.eq {w : World} {ok : Bool} {id ver ver' : Int} {ar : List Int} {l l' : List Prod.Pc} {e : Ending} {w' : World} (h : RetB w ok id ver ar l e w') (k : ok = true) (hv : ver = ver') (hl : l = l') : RetPrd w id ver' ar l' e w' := by subst hv hl; exact h.y k
/-- Pieces that lie one behind the other from an offset on. -/
def PcsB (w : World) (b o : Nat) (l : List Prod.Pc) : Prop := ∃ rs, (∀ (i : Nat) x, rs[i]? = some x → RawAt w b (o + i * 4) x) ∧ Reads w rs l
theorem PcsB.nil {w : World} {b o : Nat} : PcsB w b o [] := ⟨[], fun i x h => by simp at h, trivial⟩
theorem PcsB.cons {w : World} {b o o' : Nat} {l : List Prod.Pc} {p : Prod.Pc} {ar : Option Addr} {k c : Nat} (ho : o' = o + 4) (c0 : w.cell? ⟨b, o, none⟩ = some (.int .i64 p.im)) (c1 : w.cell? ⟨b, o + 1, none⟩ = some (.int .i64 p.t)) (c2 : w.cell? ⟨b, o + 2, none⟩ = some (.bool p.cl)) (c3 : w.cell? ⟨b, o + 3, none⟩ = some (.slice ar k c)) (hA : AA w ar p.rw k (Globe.validL p.rw)) (h : PcsB w b o' l) : PcsB w b o (p :: l) := by
 subst ho
 obtain ⟨rs, h1, h2⟩ := h
 refine ⟨⟨p.im, p.t, p.cl, ar, k, c⟩ :: rs, fun i x hx => ?_, ⟨rfl, rfl, rfl, hA⟩, h2⟩
 cases i with
 | zero => simp at hx; subst hx; rw [Nat.zero_mul]; exact ⟨c0, c1, c2, c3⟩
 | succ i =>
  have := h1 i x (by simpa using hx)
  rwa [show o + (i + 1) * 4 = o + 4 + i * 4 by omega]
theorem PcsB.at {w : World} {b n : Nat} {l : List Prod.Pc} (h : PcsB w b 0 l) (hl : l.length = n) (hn : n ≤ 1000) : PcsAt w (some ⟨b, 0, none⟩) n l := by
 obtain ⟨rs, h1, h2⟩ := h
 have := h2.len
 exact ⟨rs, ⟨by omega, by omega, .inr ⟨b, 0, rfl, h1⟩⟩, h2⟩
theorem aa_nil (w : World) : AA w none [] 0 (Globe.validL []) := ⟨.inl rfl, rfl, Nat.zero_le _, rfl⟩
def p4 : Prod.Pc := ⟨4, 100, true, rowL 3⟩
def p5 : Prod.Pc := ⟨5, 200, false, rowL 6⟩
def p6 : Prod.Pc := ⟨6, 300, true, rowL 2⟩
def p7 : Prod.Pc := ⟨7, 150, false, rowL 2⟩
def p5' : Prod.Pc := ⟨5, 200, false, rowL 4⟩
def p4' : Prod.Pc := ⟨4, 100, true, rowL 1⟩
section
variable {w1 w2 w3 w4 : World} {id ver id2 ver2 : Int} {ar ar2 : List Int} {ps qs : List Prod.Pc} {a1 a b1 b : Option Addr} {n1 n m1 m : Nat} {r : Bool}
theorem pSame_r (c1 c d1 d : Nat) (w : World) (hA : AA w1 a1 ar n1 (Globe.validL ar)) (e1 : Ext w1 w) (hP : PcsAt w2 a n ps) (e2 : Ext w2 w) (hB : AA w3 b1 ar2 m1 (Globe.validL ar2)) (e3 : Ext w3 w) (hQ : PcsAt w4 b m qs) (e4 : Ext w4 w) (hr : Prod.sameP id ver ar ps id2 ver2 ar2 qs = r) : Calls Tryd.prog 27 #[.agg #[.int .i64 id, .int .i64 ver, .slice a1 n1 c1, .slice a n c], .agg #[.int .i64 id2, .int .i64 ver2, .slice b1 m1 d1, .slice b m d]] w fun e w' => e = .returned (.bool r) ∧ Ext w w' := hr ▸ pSame_c c1 c d1 d w hA e1 hP e2 hB e3 hQ e4
theorem rpSame_r (c1 c d1 d : Nat) (w : World) (hA : AA w1 a1 ar n1 (Globe.validL ar)) (e1 : Ext w1 w) (hP : PcsAt w2 a n ps) (e2 : Ext w2 w) (hB : AA w3 b1 ar2 m1 (Globe.validL ar2)) (e3 : Ext w3 w) (hQ : PcsAt w4 b m qs) (e4 : Ext w4 w) (hr : Prod.sameP id ver ar ps id2 ver2 ar2 qs = r) : Calls Tryd.prog 20 #[.agg #[.int .i64 id, .int .i64 ver, .slice a1 n1 c1, .slice a n c], .agg #[.int .i64 id2, .int .i64 ver2, .slice b1 m1 d1, .slice b m d]] w fun e w' => e = .returned (.bool r) ∧ Ext w w' := hr ▸ rpSame_c c1 c d1 d w hA e1 hP e2 hB e3 hQ e4
theorem Over_r (c1 d1 : Nat) {c d : Nat} (w : World) (hnc : n ≤ c) (hmd : m ≤ d) (hA : AA w1 a1 ar n1 (Globe.validL ar)) (e1 : Ext w1 w) (hP : PcsAt w2 a n ps) (e2 : Ext w2 w) (hB : AA w3 b1 ar2 m1 (Globe.validL ar2)) (e3 : Ext w3 w) (hQ : PcsAt w4 b m qs) (e4 : Ext w4 w) (hT : Tab w) (hr : Prod.overB id ver ar ps id2 ver2 ar2 qs = r) : Calls Tryd.prog 22 #[.agg #[.int .i64 id, .int .i64 ver, .slice a1 n1 c1, .slice a n c], .agg #[.int .i64 id2, .int .i64 ver2, .slice b1 m1 d1, .slice b m d]] w fun e w' => e = .returned (.bool r) ∧ Ext w w' := hr ▸ Over_c c1 d1 w hnc hmd hA e1 hP e2 hB e3 hQ e4 hT
theorem Complete_r (c1 : Nat) {c : Nat} (w : World) (hnc : n ≤ c) (hA : AA w1 a1 ar n1 (Globe.validL ar)) (e1 : Ext w1 w) (hP : PcsAt w2 a n ps) (e2 : Ext w2 w) (hT : Tab w) (hr : (Prod.validP id ver ar ps && Prod.noC (Prod.rest ar ps)) = r) : Calls Tryd.prog 17 #[.agg #[.int .i64 id, .int .i64 ver, .slice a1 n1 c1, .slice a n c]] w fun e w' => e = .returned (.bool r) ∧ Ext w w' := hr ▸ Complete_c c1 w hnc hA e1 hP e2 hT
end
set_option maxRecDepth 1000000 in
set_option maxHeartbeats 4000000 in
theorem sane_c (w : World) (hT : Tab w) : Calls Tryd.prog 8 #[] w fun e w' => e = .returned (.bool true) ∧ Ext w w' := by
 refine calls_cw 179 [] Tryd.func8 rfl Tryd.ntmps8 (by kernel_rfl) (by kernel_rfl) (fun L => ?_)
 have hE : Ext w w := Ext.refl w
 refine cw_seq ?_; refine cw_plain ?_; refine pT (.bool false) ?_; refine pl_nil ?_; refine qw_then ?_; refine cw_seq ?_; refine cw_plain ?_
 refine pS (sn_call (f := 26) (args := #[.int .i64 3]) (by kernel_rfl) ((row_c 3 _).mono ?_))
 rintro e w4 ⟨B1, rfl, hn2, hr3, hb⟩
 replace hE := hE.trans hb; have hs5 := hb.size; clear hb
 have hr3v := hr3.va (show Globe.validL (rowL 3) = true by kernel_rfl)
 have lt6 := hr3v.lt
 refine ⟨_, rfl, ?_⟩
 refine pT (.agg #[.int .i64 4, .int .i64 100, .bool true, .slice (some ⟨B1, 0, none⟩) 24 24]) ?_
 refine pS (sn_new (us := #[.int .i64 0, .int .i64 0, .bool false, .slice none 0 0]) (t := 41) (by kernel_rfl) ?_)
 intro O7 X8 hzO7 hyO7 hb hbx; have ⟨bO7_0, bO7_1, bO7_2, bO7_3⟩ := bx4 hbx; clear hbx
 replace hE := hE.trans hb; replace hr3v := hr3v.ext hb; have hs9 := hb.size; clear hb; have lt10 := bO7_0.lt
 refine pP (sn_setK4 (O := O7) (j := 0) (v0 := .int .i64 4) (v1 := .int .i64 100) (v2 := .bool true) (v3 := .slice (some ⟨B1, 0, none⟩) 24 24) (ex_store (p := .pointer (some ⟨O7, 0, none⟩)) (v := .agg #[.int .i64 4, .int .i64 100, .bool true, .slice (some ⟨B1, 0, none⟩) 24 24]) rfl (by kernel_rfl) (by kernel_rfl) (st41 bO7_0.1 bO7_0.2 bO7_1.1 bO7_1.2 bO7_2.1 bO7_2.2 bO7_3.1 bO7_3.2)) bO7_0 bO7_1 bO7_2 bO7_3 ?_)
 intro X11 ho hv0 hv1 hv2 hv3 hk; replace hE := ho.ext hE (T hs5 (Nat.le_of_eq hzO7)); replace hr3v := ho.va (Nat.ne_of_gt (Nat.lt_of_lt_of_le lt6 (Nat.le_of_eq hzO7))) hr3v; have hs12 : X8.heap.size ≤ X11.heap.size := Nat.le_of_eq ho.size.symm; clear ho hk bO7_0 bO7_1 bO7_2 bO7_3; have bO7_0 := hv0; clear hv0; have bO7_1 := hv1; clear hv1; have bO7_2 := hv2; clear hv2; have bO7_3 := hv3; clear hv3; refine pl_nil ?_; refine qw_then ?_; refine cw_seq ?_; have hX13 : Ext X11 X11 := Ext.refl _; refine cw_plain ?_
 refine pS (sn_call (f := 26) (args := #[.int .i64 6]) (by kernel_rfl) ((row_c 6 _).mono ?_))
 rintro e w17 ⟨B14, rfl, hn15, hr16, hb⟩
 replace hE := hE.trans hb; replace hX13 := hX13.trans hb; have hs18 := hb.size; clear hb
 have hr16v := hr16.va (show Globe.validL (rowL 6) = true by kernel_rfl)
 have lt19 := hr16v.lt
 refine ⟨_, rfl, ?_⟩
 refine pT (.agg #[.int .i64 5, .int .i64 200, .bool false, .slice (some ⟨B14, 0, none⟩) 24 24]) ?_
 refine pS (sn_new (us := #[.int .i64 0, .int .i64 0, .bool false, .slice none 0 0]) (t := 41) (by kernel_rfl) ?_)
 intro O20 X21 hzO20 hyO20 hb hbx; have ⟨bO20_0, bO20_1, bO20_2, bO20_3⟩ := bx4 hbx; clear hbx
 replace hE := hE.trans hb; replace hX13 := hX13.trans hb; replace hr16v := hr16v.ext hb; have hs22 := hb.size; clear hb; have lt23 := bO20_0.lt
 refine pP (sn_setK4 (O := O20) (j := 0) (v0 := .int .i64 5) (v1 := .int .i64 200) (v2 := .bool false) (v3 := .slice (some ⟨B14, 0, none⟩) 24 24) (ex_store (p := .pointer (some ⟨O20, 0, none⟩)) (v := .agg #[.int .i64 5, .int .i64 200, .bool false, .slice (some ⟨B14, 0, none⟩) 24 24]) rfl (by kernel_rfl) (by kernel_rfl) (st41 bO20_0.1 bO20_0.2 bO20_1.1 bO20_1.2 bO20_2.1 bO20_2.2 bO20_3.1 bO20_3.2)) bO20_0 bO20_1 bO20_2 bO20_3 ?_)
 intro X24 ho hv0 hv1 hv2 hv3 hk; replace hE := ho.ext hE (T (T hs5 (T hs9 (T hs12 hs18))) (Nat.le_of_eq hzO20)); replace hX13 := ho.ext hX13 (T hs18 (Nat.le_of_eq hzO20)); replace hr16v := ho.va (Nat.ne_of_gt (Nat.lt_of_lt_of_le lt19 (Nat.le_of_eq hzO20))) hr16v; have hs25 : X21.heap.size ≤ X24.heap.size := Nat.le_of_eq ho.size.symm; clear ho hk bO20_0 bO20_1 bO20_2 bO20_3; have bO20_0 := hv0; clear hv0; have bO20_1 := hv1; clear hv1; have bO20_2 := hv2; clear hv2; have bO20_3 := hv3; clear hv3; refine pl_nil ?_; refine qw_then ?_; refine cw_seq ?_; have hX26 : Ext X24 X24 := Ext.refl _; refine cw_plain ?_
 refine pS (sn_call (f := 26) (args := #[.int .i64 2]) (by kernel_rfl) ((row_c 2 _).mono ?_))
 rintro e w30 ⟨B27, rfl, hn28, hr29, hb⟩
 replace hE := hE.trans hb; replace hX26 := hX26.trans hb; have hs31 := hb.size; clear hb
 have hr29v := hr29.va (show Globe.validL (rowL 2) = true by kernel_rfl)
 have lt32 := hr29v.lt
 refine ⟨_, rfl, ?_⟩
 refine pT (.agg #[.int .i64 6, .int .i64 300, .bool true, .slice (some ⟨B27, 0, none⟩) 24 24]) ?_
 refine pS (sn_new (us := #[.int .i64 0, .int .i64 0, .bool false, .slice none 0 0]) (t := 41) (by kernel_rfl) ?_)
 intro O33 X34 hzO33 hyO33 hb hbx; have ⟨bO33_0, bO33_1, bO33_2, bO33_3⟩ := bx4 hbx; clear hbx
 replace hE := hE.trans hb; replace hX26 := hX26.trans hb; replace hr29v := hr29v.ext hb; have hs35 := hb.size; clear hb; have lt36 := bO33_0.lt
 refine pP (sn_setK4 (O := O33) (j := 0) (v0 := .int .i64 6) (v1 := .int .i64 300) (v2 := .bool true) (v3 := .slice (some ⟨B27, 0, none⟩) 24 24) (ex_store (p := .pointer (some ⟨O33, 0, none⟩)) (v := .agg #[.int .i64 6, .int .i64 300, .bool true, .slice (some ⟨B27, 0, none⟩) 24 24]) rfl (by kernel_rfl) (by kernel_rfl) (st41 bO33_0.1 bO33_0.2 bO33_1.1 bO33_1.2 bO33_2.1 bO33_2.2 bO33_3.1 bO33_3.2)) bO33_0 bO33_1 bO33_2 bO33_3 ?_)
 intro X37 ho hv0 hv1 hv2 hv3 hk; replace hE := ho.ext hE (T (T hs5 (T hs9 (T hs12 (T hs18 (T hs22 (T hs25 hs31)))))) (Nat.le_of_eq hzO33)); replace hX26 := ho.ext hX26 (T hs31 (Nat.le_of_eq hzO33)); replace hr29v := ho.va (Nat.ne_of_gt (Nat.lt_of_lt_of_le lt32 (Nat.le_of_eq hzO33))) hr29v; have hs38 : X34.heap.size ≤ X37.heap.size := Nat.le_of_eq ho.size.symm; clear ho hk bO33_0 bO33_1 bO33_2 bO33_3; have bO33_0 := hv0; clear hv0; have bO33_1 := hv1; clear hv1; have bO33_2 := hv2; clear hv2; have bO33_3 := hv3; clear hv3; refine pl_nil ?_; refine qw_then ?_; refine cw_seq ?_; have hX39 : Ext X37 X37 := Ext.refl _
 have hY40 := hX13.trans hX26
 refine cw_join (fun ws' Y => ∃ B44 : Nat, ∃ O51 : Nat, ∃ b68 : Nat, ∃ o69 : Nat, ∃ k59 : Nat, ∃ a60 : Option Addr, ∃ n61 : Nat, ∃ c62 : Nat, ∃ O75 : Nat, ws' = [(2, .pointer (some ⟨O20, 0, none⟩)), (3, .pointer (some ⟨O33, 0, none⟩)), (4, .pointer (some ⟨O75, 0, none⟩)), (5, .int .i64 0)] ∧ Ext w Y ∧ Ext X37 Y ∧ VA Y B44 0 (rowL 7) ∧ BoxAt Y O51 0 (.int .i64 4) ∧ BoxAt Y O51 1 (.int .i64 100) ∧ BoxAt Y O51 2 (.bool true) ∧ BoxAt Y O51 3 (.slice (some ⟨B1, 0, none⟩) 24 24) ∧ BoxAt Y O51 4 (.int .i64 5) ∧ BoxAt Y O51 5 (.int .i64 200) ∧ BoxAt Y O51 6 (.bool false) ∧ BoxAt Y O51 7 (.slice (some ⟨B14, 0, none⟩) 24 24) ∧ n61 ≤ c62 ∧ Pl a60 ∧ VA Y b68 o69 (rowL 7) ∧ PcsAt Y a60 n61 ([p5', p4]) ∧ BoxAt Y O75 0 (.int .i64 1) ∧ BoxAt Y O75 1 (.int .i64 1) ∧ BoxAt Y O75 2 (.slice (some ⟨b68, o69, none⟩) 24 k59) ∧ BoxAt Y O75 3 (.slice a60 n61 c62) ∧ X37.heap.size ≤ Y.heap.size ∧ X37.heap.size ≤ B44 ∧ X37.heap.size ≤ O51 ∧ X37.heap.size ≤ b68 ∧ X37.heap.size ≤ O75 ∧ Hid (B44 ≠ O51) ∧ Hid (B44 ≠ b68) ∧ Hid (B44 ≠ O75) ∧ Hid (O51 ≠ b68) ∧ Hid (O51 ≠ O75) ∧ Hid (b68 ≠ O75)) (fun hJ => ?_) ?_
 ·
  refine cw_draw [(some 29, [], []), (some 30, [1], []), (some 31, [2], []), (some 32, [30, 31], [1, 2]), (some 33, [29, 32], [0, 3, 0]), (some 28, [33], [4]), (some 34, [28], [5]), (some 35, [28], [5]), (some 4, [], []), (none, [4, 34], [8, 6, 4, 0, 1, 2, 3, 4, 5, 6, 8]), (some 5, [35], [7, 9, 0, 1, 2, 3, 4, 5, 6, 7, 8, 9])] (fun w' => w'.cell? ⟨O7, 0, none⟩ = some (.int .i64 4) ∧ w'.cell? ⟨O7, 1, none⟩ = some (.int .i64 100) ∧ w'.cell? ⟨O7, 2, none⟩ = some (.bool true) ∧ w'.cell? ⟨O7, 3, none⟩ = some (.slice (some ⟨B1, 0, none⟩) 24 24) ∧ w'.cell? ⟨O20, 0, none⟩ = some (.int .i64 5) ∧ w'.cell? ⟨O20, 1, none⟩ = some (.int .i64 200) ∧ w'.cell? ⟨O20, 2, none⟩ = some (.bool false) ∧ w'.cell? ⟨O20, 3, none⟩ = some (.slice (some ⟨B14, 0, none⟩) 24 24)) (by kernel_rfl) (by kernel_rfl) (by kernel_rfl) (by kernel_rfl) ((calm_then calm_body)) (⟨(BoxAt.ext (hY40.trans hX39) bO7_0).1, (BoxAt.ext (hY40.trans hX39) bO7_1).1, (BoxAt.ext (hY40.trans hX39) bO7_2).1, (BoxAt.ext (hY40.trans hX39) bO7_3).1, (BoxAt.ext (hX26.trans hX39) bO20_0).1, (BoxAt.ext (hX26.trans hX39) bO20_1).1, (BoxAt.ext (hX26.trans hX39) bO20_2).1, (BoxAt.ext (hX26.trans hX39) bO20_3).1⟩) (fun ops Q X41 hb hL hR hK => ?_)
  replace hE := hE.trans hb; replace hX39 := hX39.trans hb; have hs42 := hb.size; clear hb
  have hS43 := And.intro ((BoxAt.ext (hY40.trans hX39) bO7_0).1) (And.intro ((BoxAt.ext (hY40.trans hX39) bO7_1).1) (And.intro ((BoxAt.ext (hY40.trans hX39) bO7_2).1) (And.intro ((BoxAt.ext (hY40.trans hX39) bO7_3).1) (And.intro ((BoxAt.ext (hX26.trans hX39) bO20_0).1) (And.intro ((BoxAt.ext (hX26.trans hX39) bO20_1).1) (And.intro ((BoxAt.ext (hX26.trans hX39) bO20_2).1) ((BoxAt.ext (hX26.trans hX39) bO20_3).1)))))))
  refine wT 1 (.agg #[.int .i64 4, .int .i64 100, .bool true, .slice (some ⟨B1, 0, none⟩) 24 24]) hR (fun w hS => ex_load rfl (by kernel_rfl) (ld41 (hS.1) (hS.2.1) (hS.2.2.1) (hS.2.2.2.1))) (hS43) ?_
  refine wT 2 (.agg #[.int .i64 5, .int .i64 200, .bool false, .slice (some ⟨B14, 0, none⟩) 24 24]) hR (fun w hS => ex_load rfl (by kernel_rfl) (ld41 (hS.2.2.2.2.1) (hS.2.2.2.2.2.1) (hS.2.2.2.2.2.2.1) (hS.2.2.2.2.2.2.2))) (hS43) ?_
  refine wd_three 0 3 8 hR rfl rfl rfl (by kernel_rfl) (by kernel_rfl) (by kernel_rfl) (by kernel_rfl) (by kernel_rfl) ?_ ?_ ?_
  ·
   refine sn_call (f := 26) (args := #[.int .i64 7]) (by kernel_rfl) ((row_c 7 _).mono ?_)
   rintro e w47 ⟨B44, rfl, hn45, hr46, hb⟩
   replace hE := hE.trans hb; replace hX39 := hX39.trans hb; have hs48 := hb.size; clear hb
   have hr46v := hr46.va (show Globe.validL (rowL 7) = true by kernel_rfl)
   have lt49 := hr46v.lt
   have hS50 := And.intro ((BoxAt.ext (hY40.trans hX39) bO7_0).1) (And.intro ((BoxAt.ext (hY40.trans hX39) bO7_1).1) (And.intro ((BoxAt.ext (hY40.trans hX39) bO7_2).1) (And.intro ((BoxAt.ext (hY40.trans hX39) bO7_3).1) (And.intro ((BoxAt.ext (hX26.trans hX39) bO20_0).1) (And.intro ((BoxAt.ext (hX26.trans hX39) bO20_1).1) (And.intro ((BoxAt.ext (hX26.trans hX39) bO20_2).1) ((BoxAt.ext (hX26.trans hX39) bO20_3).1)))))))
   refine ⟨_, rfl, hS50, ?_⟩
   refine wd_two 3 8 hR rfl rfl (by kernel_rfl) (by kernel_rfl) (by kernel_rfl) (by kernel_rfl) ?_ ?_
   ·
    refine sn_newS (us := #[.int .i64 4, .int .i64 100, .bool true, .slice (some ⟨B1, 0, none⟩) 24 24, .int .i64 5, .int .i64 200, .bool false, .slice (some ⟨B14, 0, none⟩) 24 24]) (t := 41) (k := 2) (c := 2) (by kernel_rfl) ?_
    intro O51 X52 hzO51 hyO51 hb hbx; have ⟨bO51_0, bO51_1, bO51_2, bO51_3, bO51_4, bO51_5, bO51_6, bO51_7⟩ := bx8 hbx; clear hbx
    replace hE := hE.trans hb; replace hX39 := hX39.trans hb; replace hr46v := hr46v.ext hb; have hs53 := hb.size; clear hb; have lt54 := bO51_0.lt
    have hS55 := And.intro ((BoxAt.ext (hY40.trans hX39) bO7_0).1) (And.intro ((BoxAt.ext (hY40.trans hX39) bO7_1).1) (And.intro ((BoxAt.ext (hY40.trans hX39) bO7_2).1) (And.intro ((BoxAt.ext (hY40.trans hX39) bO7_3).1) (And.intro ((BoxAt.ext (hX26.trans hX39) bO20_0).1) (And.intro ((BoxAt.ext (hX26.trans hX39) bO20_1).1) (And.intro ((BoxAt.ext (hX26.trans hX39) bO20_2).1) ((BoxAt.ext (hX26.trans hX39) bO20_3).1)))))))
    refine ⟨hS55, ?_⟩
    refine wd_two 4 8 hR rfl rfl (by kernel_rfl) (by kernel_rfl) (by kernel_rfl) (by kernel_rfl) ?_ ?_
    ·
     have hPB56 : PcsAt X52 (some ⟨O51, 0, none⟩) 2 [p4, p5] := PcsB.at (PcsB.cons (p := p4) (o := 0) (o' := 4) rfl (bO51_0.1) (bO51_1.1) (bO51_2.1) (bO51_3.1) (AA.ext (aa_q (hr3v.aa)) (hY40.trans hX39)) (PcsB.cons (p := p5) (o := 4) (o' := 8) rfl (bO51_4.1) (bO51_5.1) (bO51_6.1) (bO51_7.1) (AA.ext (aa_q (hr16v.aa)) (hX26.trans hX39)) PcsB.nil)) rfl (by omega)
     refine sn_call (f := 11) (args := #[.int .i64 1, .agg #[.slice (some ⟨B44, 0, none⟩) 24 24], .slice (some ⟨O51, 0, none⟩) 2 2]) (by kernel_rfl) (((Build_c (id := 1) _ _ (by omega) (aa_q (hr46v.aa)) (Ext.refl _) hPB56 (Ext.refl _) (hT.ext hE)).mono fun _ _ h => h.eq (by kernel_rfl) rfl (show _ = [p5', p4] by kernel_rfl)).mono ?_)
     rintro e w71 ⟨a57, n58, k59, a60, n61, c62, rfl, hA63, hfr64, hP65, hnc66, hpl67, hb⟩
     replace hE := hE.trans hb; replace hX39 := hX39.trans hb; replace hr46v := hr46v.ext hb; replace bO51_0 := BoxAt.ext hb bO51_0; replace bO51_1 := BoxAt.ext hb bO51_1; replace bO51_2 := BoxAt.ext hb bO51_2; replace bO51_3 := BoxAt.ext hb bO51_3; replace bO51_4 := BoxAt.ext hb bO51_4; replace bO51_5 := BoxAt.ext hb bO51_5; replace bO51_6 := BoxAt.ext hb bO51_6; replace bO51_7 := BoxAt.ext hb bO51_7; have hs72 := hb.size; clear hb
     obtain ⟨b68, o69, rfl, rfl, hV70⟩ := va_of hA63 (by kernel_rfl)
     have hfr64l := hfr64 _ rfl
     have lt73 := hV70.lt
     have hP65n : PcsS (fun k => X52.heap.size ≤ k ∧ k < w71.heap.size) w71 a60 n61 ([p5', p4]) := PcsS.both hP65
     have hS74 := And.intro ((BoxAt.ext (hY40.trans hX39) bO7_0).1) (And.intro ((BoxAt.ext (hY40.trans hX39) bO7_1).1) (And.intro ((BoxAt.ext (hY40.trans hX39) bO7_2).1) (And.intro ((BoxAt.ext (hY40.trans hX39) bO7_3).1) (And.intro ((BoxAt.ext (hX26.trans hX39) bO20_0).1) (And.intro ((BoxAt.ext (hX26.trans hX39) bO20_1).1) (And.intro ((BoxAt.ext (hX26.trans hX39) bO20_2).1) ((BoxAt.ext (hX26.trans hX39) bO20_3).1)))))))
     refine ⟨_, rfl, hS74, ?_⟩
     refine wT 5 (.tuple #[.agg #[.int .i64 1, .int .i64 1, .slice (some ⟨b68, o69, none⟩) 24 k59, .slice a60 n61 c62], .int .i64 0]) hR (fun w _ => by kernel_rfl) (hS74) ?_
     refine wT 6 (.agg #[.int .i64 1, .int .i64 1, .slice (some ⟨b68, o69, none⟩) 24 k59, .slice a60 n61 c62]) hR (fun w _ => by kernel_rfl) (hS74) ?_
     refine wT 7 (.int .i64 0) hR (fun w _ => by kernel_rfl) (hS74) ?_
     refine wS 8 hR (sn_new (us := #[.int .i64 0, .int .i64 0, .slice none 0 0, .slice none 0 0]) (t := 31) (by kernel_rfl) ?_)
     intro O75 X76 hzO75 hyO75 hb hbx; have ⟨bO75_0, bO75_1, bO75_2, bO75_3⟩ := bx4 hbx; clear hbx
     replace hE := hE.trans hb; replace hX39 := hX39.trans hb; replace hr46v := hr46v.ext hb; replace bO51_0 := BoxAt.ext hb bO51_0; replace bO51_1 := BoxAt.ext hb bO51_1; replace bO51_2 := BoxAt.ext hb bO51_2; replace bO51_3 := BoxAt.ext hb bO51_3; replace bO51_4 := BoxAt.ext hb bO51_4; replace bO51_5 := BoxAt.ext hb bO51_5; replace bO51_6 := BoxAt.ext hb bO51_6; replace bO51_7 := BoxAt.ext hb bO51_7; replace hV70 := hV70.ext hb; replace hP65n := hP65n.ext hb; have hs77 := hb.size; clear hb; have lt78 := bO75_0.lt
     have hS79 := And.intro ((BoxAt.ext (hY40.trans hX39) bO7_0).1) (And.intro ((BoxAt.ext (hY40.trans hX39) bO7_1).1) (And.intro ((BoxAt.ext (hY40.trans hX39) bO7_2).1) (And.intro ((BoxAt.ext (hY40.trans hX39) bO7_3).1) (And.intro ((BoxAt.ext (hX26.trans hX39) bO20_0).1) (And.intro ((BoxAt.ext (hX26.trans hX39) bO20_1).1) (And.intro ((BoxAt.ext (hX26.trans hX39) bO20_2).1) ((BoxAt.ext (hX26.trans hX39) bO20_3).1)))))))
     refine ⟨hS79, ?_⟩
     refine wS 9 hR (sn_setK4 (O := O75) (j := 0) (v0 := .int .i64 1) (v1 := .int .i64 1) (v2 := .slice (some ⟨b68, o69, none⟩) 24 k59) (v3 := .slice a60 n61 c62) (ex_store (p := .pointer (some ⟨O75, 0, none⟩)) (v := .agg #[.int .i64 1, .int .i64 1, .slice (some ⟨b68, o69, none⟩) 24 k59, .slice a60 n61 c62]) rfl (by kernel_rfl) (by kernel_rfl) (st31 bO75_0.1 bO75_0.2 bO75_1.1 bO75_1.2 bO75_2.1 bO75_2.2 bO75_3.1 bO75_3.2)) bO75_0 bO75_1 bO75_2 bO75_3 ?_)
     intro X80 ho hv0 hv1 hv2 hv3 hk; replace hE := ho.ext hE (T (T hs5 (T hs9 (T hs12 (T hs18 (T hs22 (T hs25 (T hs31 (T hs35 (T hs38 (T hs42 (T hs48 (T hs53 hs72)))))))))))) (Nat.le_of_eq hzO75)); replace hX39 := ho.ext hX39 (T (T hs42 (T hs48 (T hs53 hs72))) (Nat.le_of_eq hzO75)); replace hr46v := ho.va (Nat.ne_of_gt (Nat.lt_of_lt_of_le lt49 (T (T hs53 hs72) (Nat.le_of_eq hzO75)))) hr46v
     have q9 := fun (j : Nat) (v : Value) (h : BoxAt _ O51 j v) => ho.box (Nat.ne_of_gt (Nat.lt_of_lt_of_le lt54 (T hs72 (Nat.le_of_eq hzO75)))) h
     replace bO51_0 := q9 _ _ bO51_0; replace bO51_1 := q9 _ _ bO51_1; replace bO51_2 := q9 _ _ bO51_2; replace bO51_3 := q9 _ _ bO51_3; replace bO51_4 := q9 _ _ bO51_4; replace bO51_5 := q9 _ _ bO51_5; replace bO51_6 := q9 _ _ bO51_6; replace bO51_7 := q9 _ _ bO51_7; clear q9; replace hV70 := ho.va (Nat.ne_of_gt (Nat.lt_of_lt_of_le lt73 (Nat.le_of_eq hzO75))) hV70; replace hP65n := hP65n.turn ho (fun h => absurd h.2 (Nat.not_lt_of_le (Nat.le_of_eq hzO75))); have hs81 : X76.heap.size ≤ X80.heap.size := Nat.le_of_eq ho.size.symm; clear ho hk bO75_0 bO75_1 bO75_2 bO75_3; have bO75_0 := hv0; clear hv0; have bO75_1 := hv1; clear hv1; have bO75_2 := hv2; clear hv2; have bO75_3 := hv3; clear hv3
     have hS82 := And.intro ((BoxAt.ext (hY40.trans hX39) bO7_0).1) (And.intro ((BoxAt.ext (hY40.trans hX39) bO7_1).1) (And.intro ((BoxAt.ext (hY40.trans hX39) bO7_2).1) (And.intro ((BoxAt.ext (hY40.trans hX39) bO7_3).1) (And.intro ((BoxAt.ext (hX26.trans hX39) bO20_0).1) (And.intro ((BoxAt.ext (hX26.trans hX39) bO20_1).1) (And.intro ((BoxAt.ext (hX26.trans hX39) bO20_2).1) ((BoxAt.ext (hX26.trans hX39) bO20_3).1)))))))
     refine ⟨hS82, ?_⟩
     refine wT 10 (.int .i64 0) hR (fun w _ => by kernel_rfl) (hS82) ?_
     refine wd_end hL hR hK (by kernel_rfl) ?_
     have hPx83 := PcsS.pcs hP65n
     have hX84 : Ext X80 X80 := Ext.refl _
     exact qw_leaf hJ [2, 3, 4, 5] (ws' := [(2, .pointer (some ⟨O20, 0, none⟩)), (3, .pointer (some ⟨O33, 0, none⟩)), (4, .pointer (some ⟨O75, 0, none⟩)), (5, .int .i64 0)]) (by kernel_rfl) ⟨B44, O51, b68, o69, k59, a60, n61, c62, O75, rfl, hE, (hX39.trans hX84), hr46v, bO51_0, bO51_1, bO51_2, bO51_3, bO51_4, bO51_5, bO51_6, bO51_7, hnc66, hpl67, hV70, hPx83, bO75_0, bO75_1, bO75_2, bO75_3, (T hs42 (T hs48 (T hs53 (T hs72 (T hs77 hs81))))), (T hs42 hn45), (T (T hs42 hs48) (Nat.le_of_eq hzO51)), (T (T hs42 (T hs48 hs53)) hfr64l), (T (T hs42 (T hs48 (T hs53 hs72))) (Nat.le_of_eq hzO75)), Lib.hid (Nat.ne_of_lt (Nat.lt_of_lt_of_le lt49 (Nat.le_of_eq hzO51))), Lib.hid (Nat.ne_of_lt (Nat.lt_of_lt_of_le lt49 (T hs53 hfr64l))), Lib.hid (Nat.ne_of_lt (Nat.lt_of_lt_of_le lt49 (T (T hs53 hs72) (Nat.le_of_eq hzO75)))), Lib.hid (Nat.ne_of_lt (Nat.lt_of_lt_of_le lt54 hfr64l)), Lib.hid (Nat.ne_of_lt (Nat.lt_of_lt_of_le lt54 (T hs72 (Nat.le_of_eq hzO75)))), Lib.hid (Nat.ne_of_lt (Nat.lt_of_lt_of_le lt73 (Nat.le_of_eq hzO75)))⟩
    ·
     refine sn_new (us := #[.int .i64 0, .int .i64 0, .slice none 0 0, .slice none 0 0]) (t := 31) (by kernel_rfl) ?_
     intro O85 X86 hzO85 hyO85 hb hbx; have ⟨bO85_0, bO85_1, bO85_2, bO85_3⟩ := bx4 hbx; clear hbx
     replace hE := hE.trans hb; replace hX39 := hX39.trans hb; replace hr46v := hr46v.ext hb; replace bO51_0 := BoxAt.ext hb bO51_0; replace bO51_1 := BoxAt.ext hb bO51_1; replace bO51_2 := BoxAt.ext hb bO51_2; replace bO51_3 := BoxAt.ext hb bO51_3; replace bO51_4 := BoxAt.ext hb bO51_4; replace bO51_5 := BoxAt.ext hb bO51_5; replace bO51_6 := BoxAt.ext hb bO51_6; replace bO51_7 := BoxAt.ext hb bO51_7; have hs87 := hb.size; clear hb; have lt88 := bO85_0.lt
     have hS89 := And.intro ((BoxAt.ext (hY40.trans hX39) bO7_0).1) (And.intro ((BoxAt.ext (hY40.trans hX39) bO7_1).1) (And.intro ((BoxAt.ext (hY40.trans hX39) bO7_2).1) (And.intro ((BoxAt.ext (hY40.trans hX39) bO7_3).1) (And.intro ((BoxAt.ext (hX26.trans hX39) bO20_0).1) (And.intro ((BoxAt.ext (hX26.trans hX39) bO20_1).1) (And.intro ((BoxAt.ext (hX26.trans hX39) bO20_2).1) ((BoxAt.ext (hX26.trans hX39) bO20_3).1)))))))
     refine ⟨hS89, ?_⟩
     have hPB90 : PcsAt X86 (some ⟨O51, 0, none⟩) 2 [p4, p5] := PcsB.at (PcsB.cons (p := p4) (o := 0) (o' := 4) rfl (bO51_0.1) (bO51_1.1) (bO51_2.1) (bO51_3.1) (AA.ext (aa_q (hr3v.aa)) (hY40.trans hX39)) (PcsB.cons (p := p5) (o := 4) (o' := 8) rfl (bO51_4.1) (bO51_5.1) (bO51_6.1) (bO51_7.1) (AA.ext (aa_q (hr16v.aa)) (hX26.trans hX39)) PcsB.nil)) rfl (by omega)
     refine wS 4 hR (sn_call (f := 11) (args := #[.int .i64 1, .agg #[.slice (some ⟨B44, 0, none⟩) 24 24], .slice (some ⟨O51, 0, none⟩) 2 2]) (by kernel_rfl) (((Build_c (id := 1) _ _ (by omega) (aa_q (hr46v.aa)) (Ext.refl _) hPB90 (Ext.refl _) (hT.ext hE)).mono fun _ _ h => h.eq (by kernel_rfl) rfl (show _ = [p5', p4] by kernel_rfl)).mono ?_))
     rintro e w105 ⟨a91, n92, k93, a94, n95, c96, rfl, hA97, hfr98, hP99, hnc100, hpl101, hb⟩
     replace hE := hE.trans hb; replace hX39 := hX39.trans hb; replace hr46v := hr46v.ext hb; replace bO51_0 := BoxAt.ext hb bO51_0; replace bO51_1 := BoxAt.ext hb bO51_1; replace bO51_2 := BoxAt.ext hb bO51_2; replace bO51_3 := BoxAt.ext hb bO51_3; replace bO51_4 := BoxAt.ext hb bO51_4; replace bO51_5 := BoxAt.ext hb bO51_5; replace bO51_6 := BoxAt.ext hb bO51_6; replace bO51_7 := BoxAt.ext hb bO51_7; replace bO85_0 := BoxAt.ext hb bO85_0; replace bO85_1 := BoxAt.ext hb bO85_1; replace bO85_2 := BoxAt.ext hb bO85_2; replace bO85_3 := BoxAt.ext hb bO85_3; have hs106 := hb.size; clear hb
     obtain ⟨b102, o103, rfl, rfl, hV104⟩ := va_of hA97 (by kernel_rfl)
     have hfr98l := hfr98 _ rfl
     have lt107 := hV104.lt
     have hP99n : PcsS (fun k => X86.heap.size ≤ k ∧ k < w105.heap.size) w105 a94 n95 ([p5', p4]) := PcsS.both hP99
     have hS108 := And.intro ((BoxAt.ext (hY40.trans hX39) bO7_0).1) (And.intro ((BoxAt.ext (hY40.trans hX39) bO7_1).1) (And.intro ((BoxAt.ext (hY40.trans hX39) bO7_2).1) (And.intro ((BoxAt.ext (hY40.trans hX39) bO7_3).1) (And.intro ((BoxAt.ext (hX26.trans hX39) bO20_0).1) (And.intro ((BoxAt.ext (hX26.trans hX39) bO20_1).1) (And.intro ((BoxAt.ext (hX26.trans hX39) bO20_2).1) ((BoxAt.ext (hX26.trans hX39) bO20_3).1)))))))
     refine ⟨_, rfl, hS108, ?_⟩
     refine wT 5 (.tuple #[.agg #[.int .i64 1, .int .i64 1, .slice (some ⟨b102, o103, none⟩) 24 k93, .slice a94 n95 c96], .int .i64 0]) hR (fun w _ => by kernel_rfl) (hS108) ?_
     refine wT 6 (.agg #[.int .i64 1, .int .i64 1, .slice (some ⟨b102, o103, none⟩) 24 k93, .slice a94 n95 c96]) hR (fun w _ => by kernel_rfl) (hS108) ?_
     refine wT 7 (.int .i64 0) hR (fun w _ => by kernel_rfl) (hS108) ?_
     refine wS 9 hR (sn_setK4 (O := O85) (j := 0) (v0 := .int .i64 1) (v1 := .int .i64 1) (v2 := .slice (some ⟨b102, o103, none⟩) 24 k93) (v3 := .slice a94 n95 c96) (ex_store (p := .pointer (some ⟨O85, 0, none⟩)) (v := .agg #[.int .i64 1, .int .i64 1, .slice (some ⟨b102, o103, none⟩) 24 k93, .slice a94 n95 c96]) rfl (by kernel_rfl) (by kernel_rfl) (st31 bO85_0.1 bO85_0.2 bO85_1.1 bO85_1.2 bO85_2.1 bO85_2.2 bO85_3.1 bO85_3.2)) bO85_0 bO85_1 bO85_2 bO85_3 ?_)
     intro X109 ho hv0 hv1 hv2 hv3 hk; replace hE := ho.ext hE (T (T hs5 (T hs9 (T hs12 (T hs18 (T hs22 (T hs25 (T hs31 (T hs35 (T hs38 (T hs42 (T hs48 hs53))))))))))) (Nat.le_of_eq hzO85)); replace hX39 := ho.ext hX39 (T (T hs42 (T hs48 hs53)) (Nat.le_of_eq hzO85)); replace hr46v := ho.va (Nat.ne_of_gt (Nat.lt_of_lt_of_le lt49 (T hs53 (Nat.le_of_eq hzO85)))) hr46v
     have q9 := fun (j : Nat) (v : Value) (h : BoxAt _ O51 j v) => ho.box (Nat.ne_of_gt (Nat.lt_of_lt_of_le lt54 (Nat.le_of_eq hzO85))) h
     replace bO51_0 := q9 _ _ bO51_0; replace bO51_1 := q9 _ _ bO51_1; replace bO51_2 := q9 _ _ bO51_2; replace bO51_3 := q9 _ _ bO51_3; replace bO51_4 := q9 _ _ bO51_4; replace bO51_5 := q9 _ _ bO51_5; replace bO51_6 := q9 _ _ bO51_6; replace bO51_7 := q9 _ _ bO51_7; clear q9; replace hV104 := ho.va (Nat.ne_of_lt (Nat.lt_of_lt_of_le lt88 hfr98l)) hV104; replace hP99n := hP99n.turn ho (fun h => absurd h.1 (Nat.not_le_of_lt (Nat.lt_of_lt_of_le lt88 (Nat.le_refl _)))); have hs110 : w105.heap.size ≤ X109.heap.size := Nat.le_of_eq ho.size.symm; clear ho hk bO85_0 bO85_1 bO85_2 bO85_3; have bO85_0 := hv0; clear hv0; have bO85_1 := hv1; clear hv1; have bO85_2 := hv2; clear hv2; have bO85_3 := hv3; clear hv3
     have hS111 := And.intro ((BoxAt.ext (hY40.trans hX39) bO7_0).1) (And.intro ((BoxAt.ext (hY40.trans hX39) bO7_1).1) (And.intro ((BoxAt.ext (hY40.trans hX39) bO7_2).1) (And.intro ((BoxAt.ext (hY40.trans hX39) bO7_3).1) (And.intro ((BoxAt.ext (hX26.trans hX39) bO20_0).1) (And.intro ((BoxAt.ext (hX26.trans hX39) bO20_1).1) (And.intro ((BoxAt.ext (hX26.trans hX39) bO20_2).1) ((BoxAt.ext (hX26.trans hX39) bO20_3).1)))))))
     refine ⟨hS111, ?_⟩
     refine wT 10 (.int .i64 0) hR (fun w _ => by kernel_rfl) (hS111) ?_
     refine wd_end hL hR hK (by kernel_rfl) ?_
     have hPx112 := PcsS.pcs hP99n
     have hX113 : Ext X109 X109 := Ext.refl _
     exact qw_leaf hJ [2, 3, 4, 5] (ws' := [(2, .pointer (some ⟨O20, 0, none⟩)), (3, .pointer (some ⟨O33, 0, none⟩)), (4, .pointer (some ⟨O85, 0, none⟩)), (5, .int .i64 0)]) (by kernel_rfl) ⟨B44, O51, b102, o103, k93, a94, n95, c96, O85, rfl, hE, (hX39.trans hX113), hr46v, bO51_0, bO51_1, bO51_2, bO51_3, bO51_4, bO51_5, bO51_6, bO51_7, hnc100, hpl101, hV104, hPx112, bO85_0, bO85_1, bO85_2, bO85_3, (T hs42 (T hs48 (T hs53 (T hs87 (T hs106 hs110))))), (T hs42 hn45), (T (T hs42 hs48) (Nat.le_of_eq hzO51)), (T (T hs42 (T hs48 (T hs53 hs87))) hfr98l), (T (T hs42 (T hs48 hs53)) (Nat.le_of_eq hzO85)), Lib.hid (Nat.ne_of_lt (Nat.lt_of_lt_of_le lt49 (Nat.le_of_eq hzO51))), Lib.hid (Nat.ne_of_lt (Nat.lt_of_lt_of_le lt49 (T (T hs53 hs87) hfr98l))), Lib.hid (Nat.ne_of_lt (Nat.lt_of_lt_of_le lt49 (T hs53 (Nat.le_of_eq hzO85)))), Lib.hid (Nat.ne_of_lt (Nat.lt_of_lt_of_le lt54 (T hs87 hfr98l))), Lib.hid (Nat.ne_of_lt (Nat.lt_of_lt_of_le lt54 (Nat.le_of_eq hzO85))), Lib.hid (Nat.ne_of_gt (Nat.lt_of_lt_of_le lt88 hfr98l))⟩
   ·
    refine sn_new (us := #[.int .i64 0, .int .i64 0, .slice none 0 0, .slice none 0 0]) (t := 31) (by kernel_rfl) ?_
    intro O114 X115 hzO114 hyO114 hb hbx; have ⟨bO114_0, bO114_1, bO114_2, bO114_3⟩ := bx4 hbx; clear hbx
    replace hE := hE.trans hb; replace hX39 := hX39.trans hb; replace hr46v := hr46v.ext hb; have hs116 := hb.size; clear hb; have lt117 := bO114_0.lt
    have hS118 := And.intro ((BoxAt.ext (hY40.trans hX39) bO7_0).1) (And.intro ((BoxAt.ext (hY40.trans hX39) bO7_1).1) (And.intro ((BoxAt.ext (hY40.trans hX39) bO7_2).1) (And.intro ((BoxAt.ext (hY40.trans hX39) bO7_3).1) (And.intro ((BoxAt.ext (hX26.trans hX39) bO20_0).1) (And.intro ((BoxAt.ext (hX26.trans hX39) bO20_1).1) (And.intro ((BoxAt.ext (hX26.trans hX39) bO20_2).1) ((BoxAt.ext (hX26.trans hX39) bO20_3).1)))))))
    refine ⟨hS118, ?_⟩
    refine wS 3 hR (sn_newS (us := #[.int .i64 4, .int .i64 100, .bool true, .slice (some ⟨B1, 0, none⟩) 24 24, .int .i64 5, .int .i64 200, .bool false, .slice (some ⟨B14, 0, none⟩) 24 24]) (t := 41) (k := 2) (c := 2) (by kernel_rfl) ?_)
    intro O119 X120 hzO119 hyO119 hb hbx; have ⟨bO119_0, bO119_1, bO119_2, bO119_3, bO119_4, bO119_5, bO119_6, bO119_7⟩ := bx8 hbx; clear hbx
    replace hE := hE.trans hb; replace hX39 := hX39.trans hb; replace hr46v := hr46v.ext hb; replace bO114_0 := BoxAt.ext hb bO114_0; replace bO114_1 := BoxAt.ext hb bO114_1; replace bO114_2 := BoxAt.ext hb bO114_2; replace bO114_3 := BoxAt.ext hb bO114_3; have hs121 := hb.size; clear hb; have lt122 := bO119_0.lt
    have hS123 := And.intro ((BoxAt.ext (hY40.trans hX39) bO7_0).1) (And.intro ((BoxAt.ext (hY40.trans hX39) bO7_1).1) (And.intro ((BoxAt.ext (hY40.trans hX39) bO7_2).1) (And.intro ((BoxAt.ext (hY40.trans hX39) bO7_3).1) (And.intro ((BoxAt.ext (hX26.trans hX39) bO20_0).1) (And.intro ((BoxAt.ext (hX26.trans hX39) bO20_1).1) (And.intro ((BoxAt.ext (hX26.trans hX39) bO20_2).1) ((BoxAt.ext (hX26.trans hX39) bO20_3).1)))))))
    refine ⟨hS123, ?_⟩
    have hPB124 : PcsAt X120 (some ⟨O119, 0, none⟩) 2 [p4, p5] := PcsB.at (PcsB.cons (p := p4) (o := 0) (o' := 4) rfl (bO119_0.1) (bO119_1.1) (bO119_2.1) (bO119_3.1) (AA.ext (aa_q (hr3v.aa)) (hY40.trans hX39)) (PcsB.cons (p := p5) (o := 4) (o' := 8) rfl (bO119_4.1) (bO119_5.1) (bO119_6.1) (bO119_7.1) (AA.ext (aa_q (hr16v.aa)) (hX26.trans hX39)) PcsB.nil)) rfl (by omega)
    refine wS 4 hR (sn_call (f := 11) (args := #[.int .i64 1, .agg #[.slice (some ⟨B44, 0, none⟩) 24 24], .slice (some ⟨O119, 0, none⟩) 2 2]) (by kernel_rfl) (((Build_c (id := 1) _ _ (by omega) (aa_q (hr46v.aa)) (Ext.refl _) hPB124 (Ext.refl _) (hT.ext hE)).mono fun _ _ h => h.eq (by kernel_rfl) rfl (show _ = [p5', p4] by kernel_rfl)).mono ?_))
    rintro e w139 ⟨a125, n126, k127, a128, n129, c130, rfl, hA131, hfr132, hP133, hnc134, hpl135, hb⟩
    replace hE := hE.trans hb; replace hX39 := hX39.trans hb; replace hr46v := hr46v.ext hb; replace bO114_0 := BoxAt.ext hb bO114_0; replace bO114_1 := BoxAt.ext hb bO114_1; replace bO114_2 := BoxAt.ext hb bO114_2; replace bO114_3 := BoxAt.ext hb bO114_3; replace bO119_0 := BoxAt.ext hb bO119_0; replace bO119_1 := BoxAt.ext hb bO119_1; replace bO119_2 := BoxAt.ext hb bO119_2; replace bO119_3 := BoxAt.ext hb bO119_3; replace bO119_4 := BoxAt.ext hb bO119_4; replace bO119_5 := BoxAt.ext hb bO119_5; replace bO119_6 := BoxAt.ext hb bO119_6; replace bO119_7 := BoxAt.ext hb bO119_7; have hs140 := hb.size; clear hb
    obtain ⟨b136, o137, rfl, rfl, hV138⟩ := va_of hA131 (by kernel_rfl)
    have hfr132l := hfr132 _ rfl
    have lt141 := hV138.lt
    have hP133n : PcsS (fun k => X120.heap.size ≤ k ∧ k < w139.heap.size) w139 a128 n129 ([p5', p4]) := PcsS.both hP133
    have hS142 := And.intro ((BoxAt.ext (hY40.trans hX39) bO7_0).1) (And.intro ((BoxAt.ext (hY40.trans hX39) bO7_1).1) (And.intro ((BoxAt.ext (hY40.trans hX39) bO7_2).1) (And.intro ((BoxAt.ext (hY40.trans hX39) bO7_3).1) (And.intro ((BoxAt.ext (hX26.trans hX39) bO20_0).1) (And.intro ((BoxAt.ext (hX26.trans hX39) bO20_1).1) (And.intro ((BoxAt.ext (hX26.trans hX39) bO20_2).1) ((BoxAt.ext (hX26.trans hX39) bO20_3).1)))))))
    refine ⟨_, rfl, hS142, ?_⟩
    refine wT 5 (.tuple #[.agg #[.int .i64 1, .int .i64 1, .slice (some ⟨b136, o137, none⟩) 24 k127, .slice a128 n129 c130], .int .i64 0]) hR (fun w _ => by kernel_rfl) (hS142) ?_
    refine wT 6 (.agg #[.int .i64 1, .int .i64 1, .slice (some ⟨b136, o137, none⟩) 24 k127, .slice a128 n129 c130]) hR (fun w _ => by kernel_rfl) (hS142) ?_
    refine wT 7 (.int .i64 0) hR (fun w _ => by kernel_rfl) (hS142) ?_
    refine wS 9 hR (sn_setK4 (O := O114) (j := 0) (v0 := .int .i64 1) (v1 := .int .i64 1) (v2 := .slice (some ⟨b136, o137, none⟩) 24 k127) (v3 := .slice a128 n129 c130) (ex_store (p := .pointer (some ⟨O114, 0, none⟩)) (v := .agg #[.int .i64 1, .int .i64 1, .slice (some ⟨b136, o137, none⟩) 24 k127, .slice a128 n129 c130]) rfl (by kernel_rfl) (by kernel_rfl) (st31 bO114_0.1 bO114_0.2 bO114_1.1 bO114_1.2 bO114_2.1 bO114_2.2 bO114_3.1 bO114_3.2)) bO114_0 bO114_1 bO114_2 bO114_3 ?_)
    intro X143 ho hv0 hv1 hv2 hv3 hk; replace hE := ho.ext hE (T (T hs5 (T hs9 (T hs12 (T hs18 (T hs22 (T hs25 (T hs31 (T hs35 (T hs38 (T hs42 hs48)))))))))) (Nat.le_of_eq hzO114)); replace hX39 := ho.ext hX39 (T (T hs42 hs48) (Nat.le_of_eq hzO114)); replace hr46v := ho.va (Nat.ne_of_gt (Nat.lt_of_lt_of_le lt49 (Nat.le_of_eq hzO114))) hr46v
    have q9 := fun (j : Nat) (v : Value) (h : BoxAt _ O119 j v) => ho.box (Nat.ne_of_lt (Nat.lt_of_lt_of_le lt117 (Nat.le_of_eq hzO119))) h
    replace bO119_0 := q9 _ _ bO119_0; replace bO119_1 := q9 _ _ bO119_1; replace bO119_2 := q9 _ _ bO119_2; replace bO119_3 := q9 _ _ bO119_3; replace bO119_4 := q9 _ _ bO119_4; replace bO119_5 := q9 _ _ bO119_5; replace bO119_6 := q9 _ _ bO119_6; replace bO119_7 := q9 _ _ bO119_7; clear q9; replace hV138 := ho.va (Nat.ne_of_lt (Nat.lt_of_lt_of_le lt117 (T hs121 hfr132l))) hV138; replace hP133n := hP133n.turn ho (fun h => absurd h.1 (Nat.not_le_of_lt (Nat.lt_of_lt_of_le lt117 hs121))); have hs144 : w139.heap.size ≤ X143.heap.size := Nat.le_of_eq ho.size.symm; clear ho hk bO114_0 bO114_1 bO114_2 bO114_3; have bO114_0 := hv0; clear hv0; have bO114_1 := hv1; clear hv1; have bO114_2 := hv2; clear hv2; have bO114_3 := hv3; clear hv3
    have hS145 := And.intro ((BoxAt.ext (hY40.trans hX39) bO7_0).1) (And.intro ((BoxAt.ext (hY40.trans hX39) bO7_1).1) (And.intro ((BoxAt.ext (hY40.trans hX39) bO7_2).1) (And.intro ((BoxAt.ext (hY40.trans hX39) bO7_3).1) (And.intro ((BoxAt.ext (hX26.trans hX39) bO20_0).1) (And.intro ((BoxAt.ext (hX26.trans hX39) bO20_1).1) (And.intro ((BoxAt.ext (hX26.trans hX39) bO20_2).1) ((BoxAt.ext (hX26.trans hX39) bO20_3).1)))))))
    refine ⟨hS145, ?_⟩
    refine wT 10 (.int .i64 0) hR (fun w _ => by kernel_rfl) (hS145) ?_
    refine wd_end hL hR hK (by kernel_rfl) ?_
    have hPx146 := PcsS.pcs hP133n
    have hX147 : Ext X143 X143 := Ext.refl _
    exact qw_leaf hJ [2, 3, 4, 5] (ws' := [(2, .pointer (some ⟨O20, 0, none⟩)), (3, .pointer (some ⟨O33, 0, none⟩)), (4, .pointer (some ⟨O114, 0, none⟩)), (5, .int .i64 0)]) (by kernel_rfl) ⟨B44, O119, b136, o137, k127, a128, n129, c130, O114, rfl, hE, (hX39.trans hX147), hr46v, bO119_0, bO119_1, bO119_2, bO119_3, bO119_4, bO119_5, bO119_6, bO119_7, hnc134, hpl135, hV138, hPx146, bO114_0, bO114_1, bO114_2, bO114_3, (T hs42 (T hs48 (T hs116 (T hs121 (T hs140 hs144))))), (T hs42 hn45), (T (T hs42 (T hs48 hs116)) (Nat.le_of_eq hzO119)), (T (T hs42 (T hs48 (T hs116 hs121))) hfr132l), (T (T hs42 hs48) (Nat.le_of_eq hzO114)), Lib.hid (Nat.ne_of_lt (Nat.lt_of_lt_of_le lt49 (T hs116 (Nat.le_of_eq hzO119)))), Lib.hid (Nat.ne_of_lt (Nat.lt_of_lt_of_le lt49 (T (T hs116 hs121) hfr132l))), Lib.hid (Nat.ne_of_lt (Nat.lt_of_lt_of_le lt49 (Nat.le_of_eq hzO114))), Lib.hid (Nat.ne_of_lt (Nat.lt_of_lt_of_le lt122 hfr132l)), Lib.hid (Nat.ne_of_gt (Nat.lt_of_lt_of_le lt117 (Nat.le_of_eq hzO119))), Lib.hid (Nat.ne_of_gt (Nat.lt_of_lt_of_le lt117 (T hs121 hfr132l)))⟩
  ·
   refine sn_newS (us := #[.int .i64 4, .int .i64 100, .bool true, .slice (some ⟨B1, 0, none⟩) 24 24, .int .i64 5, .int .i64 200, .bool false, .slice (some ⟨B14, 0, none⟩) 24 24]) (t := 41) (k := 2) (c := 2) (by kernel_rfl) ?_
   intro O148 X149 hzO148 hyO148 hb hbx; have ⟨bO148_0, bO148_1, bO148_2, bO148_3, bO148_4, bO148_5, bO148_6, bO148_7⟩ := bx8 hbx; clear hbx
   replace hE := hE.trans hb; replace hX39 := hX39.trans hb; have hs150 := hb.size; clear hb; have lt151 := bO148_0.lt
   have hS152 := And.intro ((BoxAt.ext (hY40.trans hX39) bO7_0).1) (And.intro ((BoxAt.ext (hY40.trans hX39) bO7_1).1) (And.intro ((BoxAt.ext (hY40.trans hX39) bO7_2).1) (And.intro ((BoxAt.ext (hY40.trans hX39) bO7_3).1) (And.intro ((BoxAt.ext (hX26.trans hX39) bO20_0).1) (And.intro ((BoxAt.ext (hX26.trans hX39) bO20_1).1) (And.intro ((BoxAt.ext (hX26.trans hX39) bO20_2).1) ((BoxAt.ext (hX26.trans hX39) bO20_3).1)))))))
   refine ⟨hS152, ?_⟩
   refine wd_two 0 8 hR rfl rfl (by kernel_rfl) (by kernel_rfl) (by kernel_rfl) (by kernel_rfl) ?_ ?_
   ·
    refine sn_call (f := 26) (args := #[.int .i64 7]) (by kernel_rfl) ((row_c 7 _).mono ?_)
    rintro e w156 ⟨B153, rfl, hn154, hr155, hb⟩
    replace hE := hE.trans hb; replace hX39 := hX39.trans hb; replace bO148_0 := BoxAt.ext hb bO148_0; replace bO148_1 := BoxAt.ext hb bO148_1; replace bO148_2 := BoxAt.ext hb bO148_2; replace bO148_3 := BoxAt.ext hb bO148_3; replace bO148_4 := BoxAt.ext hb bO148_4; replace bO148_5 := BoxAt.ext hb bO148_5; replace bO148_6 := BoxAt.ext hb bO148_6; replace bO148_7 := BoxAt.ext hb bO148_7; have hs157 := hb.size; clear hb
    have hr155v := hr155.va (show Globe.validL (rowL 7) = true by kernel_rfl)
    have lt158 := hr155v.lt
    have hS159 := And.intro ((BoxAt.ext (hY40.trans hX39) bO7_0).1) (And.intro ((BoxAt.ext (hY40.trans hX39) bO7_1).1) (And.intro ((BoxAt.ext (hY40.trans hX39) bO7_2).1) (And.intro ((BoxAt.ext (hY40.trans hX39) bO7_3).1) (And.intro ((BoxAt.ext (hX26.trans hX39) bO20_0).1) (And.intro ((BoxAt.ext (hX26.trans hX39) bO20_1).1) (And.intro ((BoxAt.ext (hX26.trans hX39) bO20_2).1) ((BoxAt.ext (hX26.trans hX39) bO20_3).1)))))))
    refine ⟨_, rfl, hS159, ?_⟩
    refine wd_two 4 8 hR rfl rfl (by kernel_rfl) (by kernel_rfl) (by kernel_rfl) (by kernel_rfl) ?_ ?_
    ·
     have hPB160 : PcsAt w156 (some ⟨O148, 0, none⟩) 2 [p4, p5] := PcsB.at (PcsB.cons (p := p4) (o := 0) (o' := 4) rfl (bO148_0.1) (bO148_1.1) (bO148_2.1) (bO148_3.1) (AA.ext (aa_q (hr3v.aa)) (hY40.trans hX39)) (PcsB.cons (p := p5) (o := 4) (o' := 8) rfl (bO148_4.1) (bO148_5.1) (bO148_6.1) (bO148_7.1) (AA.ext (aa_q (hr16v.aa)) (hX26.trans hX39)) PcsB.nil)) rfl (by omega)
     refine sn_call (f := 11) (args := #[.int .i64 1, .agg #[.slice (some ⟨B153, 0, none⟩) 24 24], .slice (some ⟨O148, 0, none⟩) 2 2]) (by kernel_rfl) (((Build_c (id := 1) _ _ (by omega) (aa_q (hr155v.aa)) (Ext.refl _) hPB160 (Ext.refl _) (hT.ext hE)).mono fun _ _ h => h.eq (by kernel_rfl) rfl (show _ = [p5', p4] by kernel_rfl)).mono ?_)
     rintro e w175 ⟨a161, n162, k163, a164, n165, c166, rfl, hA167, hfr168, hP169, hnc170, hpl171, hb⟩
     replace hE := hE.trans hb; replace hX39 := hX39.trans hb; replace bO148_0 := BoxAt.ext hb bO148_0; replace bO148_1 := BoxAt.ext hb bO148_1; replace bO148_2 := BoxAt.ext hb bO148_2; replace bO148_3 := BoxAt.ext hb bO148_3; replace bO148_4 := BoxAt.ext hb bO148_4; replace bO148_5 := BoxAt.ext hb bO148_5; replace bO148_6 := BoxAt.ext hb bO148_6; replace bO148_7 := BoxAt.ext hb bO148_7; replace hr155v := hr155v.ext hb; have hs176 := hb.size; clear hb
     obtain ⟨b172, o173, rfl, rfl, hV174⟩ := va_of hA167 (by kernel_rfl)
     have hfr168l := hfr168 _ rfl
     have lt177 := hV174.lt
     have hP169n : PcsS (fun k => w156.heap.size ≤ k ∧ k < w175.heap.size) w175 a164 n165 ([p5', p4]) := PcsS.both hP169
     have hS178 := And.intro ((BoxAt.ext (hY40.trans hX39) bO7_0).1) (And.intro ((BoxAt.ext (hY40.trans hX39) bO7_1).1) (And.intro ((BoxAt.ext (hY40.trans hX39) bO7_2).1) (And.intro ((BoxAt.ext (hY40.trans hX39) bO7_3).1) (And.intro ((BoxAt.ext (hX26.trans hX39) bO20_0).1) (And.intro ((BoxAt.ext (hX26.trans hX39) bO20_1).1) (And.intro ((BoxAt.ext (hX26.trans hX39) bO20_2).1) ((BoxAt.ext (hX26.trans hX39) bO20_3).1)))))))
     refine ⟨_, rfl, hS178, ?_⟩
     refine wT 5 (.tuple #[.agg #[.int .i64 1, .int .i64 1, .slice (some ⟨b172, o173, none⟩) 24 k163, .slice a164 n165 c166], .int .i64 0]) hR (fun w _ => by kernel_rfl) (hS178) ?_
     refine wT 6 (.agg #[.int .i64 1, .int .i64 1, .slice (some ⟨b172, o173, none⟩) 24 k163, .slice a164 n165 c166]) hR (fun w _ => by kernel_rfl) (hS178) ?_
     refine wT 7 (.int .i64 0) hR (fun w _ => by kernel_rfl) (hS178) ?_
     refine wS 8 hR (sn_new (us := #[.int .i64 0, .int .i64 0, .slice none 0 0, .slice none 0 0]) (t := 31) (by kernel_rfl) ?_)
     intro O179 X180 hzO179 hyO179 hb hbx; have ⟨bO179_0, bO179_1, bO179_2, bO179_3⟩ := bx4 hbx; clear hbx
     replace hE := hE.trans hb; replace hX39 := hX39.trans hb; replace bO148_0 := BoxAt.ext hb bO148_0; replace bO148_1 := BoxAt.ext hb bO148_1; replace bO148_2 := BoxAt.ext hb bO148_2; replace bO148_3 := BoxAt.ext hb bO148_3; replace bO148_4 := BoxAt.ext hb bO148_4; replace bO148_5 := BoxAt.ext hb bO148_5; replace bO148_6 := BoxAt.ext hb bO148_6; replace bO148_7 := BoxAt.ext hb bO148_7; replace hr155v := hr155v.ext hb; replace hV174 := hV174.ext hb; replace hP169n := hP169n.ext hb; have hs181 := hb.size; clear hb; have lt182 := bO179_0.lt
     have hS183 := And.intro ((BoxAt.ext (hY40.trans hX39) bO7_0).1) (And.intro ((BoxAt.ext (hY40.trans hX39) bO7_1).1) (And.intro ((BoxAt.ext (hY40.trans hX39) bO7_2).1) (And.intro ((BoxAt.ext (hY40.trans hX39) bO7_3).1) (And.intro ((BoxAt.ext (hX26.trans hX39) bO20_0).1) (And.intro ((BoxAt.ext (hX26.trans hX39) bO20_1).1) (And.intro ((BoxAt.ext (hX26.trans hX39) bO20_2).1) ((BoxAt.ext (hX26.trans hX39) bO20_3).1)))))))
     refine ⟨hS183, ?_⟩
     refine wS 9 hR (sn_setK4 (O := O179) (j := 0) (v0 := .int .i64 1) (v1 := .int .i64 1) (v2 := .slice (some ⟨b172, o173, none⟩) 24 k163) (v3 := .slice a164 n165 c166) (ex_store (p := .pointer (some ⟨O179, 0, none⟩)) (v := .agg #[.int .i64 1, .int .i64 1, .slice (some ⟨b172, o173, none⟩) 24 k163, .slice a164 n165 c166]) rfl (by kernel_rfl) (by kernel_rfl) (st31 bO179_0.1 bO179_0.2 bO179_1.1 bO179_1.2 bO179_2.1 bO179_2.2 bO179_3.1 bO179_3.2)) bO179_0 bO179_1 bO179_2 bO179_3 ?_)
     intro X184 ho hv0 hv1 hv2 hv3 hk; replace hE := ho.ext hE (T (T hs5 (T hs9 (T hs12 (T hs18 (T hs22 (T hs25 (T hs31 (T hs35 (T hs38 (T hs42 (T hs150 (T hs157 hs176)))))))))))) (Nat.le_of_eq hzO179)); replace hX39 := ho.ext hX39 (T (T hs42 (T hs150 (T hs157 hs176))) (Nat.le_of_eq hzO179))
     have q9 := fun (j : Nat) (v : Value) (h : BoxAt _ O148 j v) => ho.box (Nat.ne_of_gt (Nat.lt_of_lt_of_le lt151 (T (T hs157 hs176) (Nat.le_of_eq hzO179)))) h
     replace bO148_0 := q9 _ _ bO148_0; replace bO148_1 := q9 _ _ bO148_1; replace bO148_2 := q9 _ _ bO148_2; replace bO148_3 := q9 _ _ bO148_3; replace bO148_4 := q9 _ _ bO148_4; replace bO148_5 := q9 _ _ bO148_5; replace bO148_6 := q9 _ _ bO148_6; replace bO148_7 := q9 _ _ bO148_7; clear q9; replace hr155v := ho.va (Nat.ne_of_gt (Nat.lt_of_lt_of_le lt158 (T hs176 (Nat.le_of_eq hzO179)))) hr155v; replace hV174 := ho.va (Nat.ne_of_gt (Nat.lt_of_lt_of_le lt177 (Nat.le_of_eq hzO179))) hV174; replace hP169n := hP169n.turn ho (fun h => absurd h.2 (Nat.not_lt_of_le (Nat.le_of_eq hzO179))); have hs185 : X180.heap.size ≤ X184.heap.size := Nat.le_of_eq ho.size.symm; clear ho hk bO179_0 bO179_1 bO179_2 bO179_3; have bO179_0 := hv0; clear hv0; have bO179_1 := hv1; clear hv1; have bO179_2 := hv2; clear hv2; have bO179_3 := hv3; clear hv3
     have hS186 := And.intro ((BoxAt.ext (hY40.trans hX39) bO7_0).1) (And.intro ((BoxAt.ext (hY40.trans hX39) bO7_1).1) (And.intro ((BoxAt.ext (hY40.trans hX39) bO7_2).1) (And.intro ((BoxAt.ext (hY40.trans hX39) bO7_3).1) (And.intro ((BoxAt.ext (hX26.trans hX39) bO20_0).1) (And.intro ((BoxAt.ext (hX26.trans hX39) bO20_1).1) (And.intro ((BoxAt.ext (hX26.trans hX39) bO20_2).1) ((BoxAt.ext (hX26.trans hX39) bO20_3).1)))))))
     refine ⟨hS186, ?_⟩
     refine wT 10 (.int .i64 0) hR (fun w _ => by kernel_rfl) (hS186) ?_
     refine wd_end hL hR hK (by kernel_rfl) ?_
     have hPx187 := PcsS.pcs hP169n
     have hX188 : Ext X184 X184 := Ext.refl _
     exact qw_leaf hJ [2, 3, 4, 5] (ws' := [(2, .pointer (some ⟨O20, 0, none⟩)), (3, .pointer (some ⟨O33, 0, none⟩)), (4, .pointer (some ⟨O179, 0, none⟩)), (5, .int .i64 0)]) (by kernel_rfl) ⟨B153, O148, b172, o173, k163, a164, n165, c166, O179, rfl, hE, (hX39.trans hX188), hr155v, bO148_0, bO148_1, bO148_2, bO148_3, bO148_4, bO148_5, bO148_6, bO148_7, hnc170, hpl171, hV174, hPx187, bO179_0, bO179_1, bO179_2, bO179_3, (T hs42 (T hs150 (T hs157 (T hs176 (T hs181 hs185))))), (T (T hs42 hs150) hn154), (T hs42 (Nat.le_of_eq hzO148)), (T (T hs42 (T hs150 hs157)) hfr168l), (T (T hs42 (T hs150 (T hs157 hs176))) (Nat.le_of_eq hzO179)), Lib.hid (Nat.ne_of_gt (Nat.lt_of_lt_of_le lt151 hn154)), Lib.hid (Nat.ne_of_lt (Nat.lt_of_lt_of_le lt158 hfr168l)), Lib.hid (Nat.ne_of_lt (Nat.lt_of_lt_of_le lt158 (T hs176 (Nat.le_of_eq hzO179)))), Lib.hid (Nat.ne_of_lt (Nat.lt_of_lt_of_le lt151 (T hs157 hfr168l))), Lib.hid (Nat.ne_of_lt (Nat.lt_of_lt_of_le lt151 (T (T hs157 hs176) (Nat.le_of_eq hzO179)))), Lib.hid (Nat.ne_of_lt (Nat.lt_of_lt_of_le lt177 (Nat.le_of_eq hzO179)))⟩
    ·
     refine sn_new (us := #[.int .i64 0, .int .i64 0, .slice none 0 0, .slice none 0 0]) (t := 31) (by kernel_rfl) ?_
     intro O189 X190 hzO189 hyO189 hb hbx; have ⟨bO189_0, bO189_1, bO189_2, bO189_3⟩ := bx4 hbx; clear hbx
     replace hE := hE.trans hb; replace hX39 := hX39.trans hb; replace bO148_0 := BoxAt.ext hb bO148_0; replace bO148_1 := BoxAt.ext hb bO148_1; replace bO148_2 := BoxAt.ext hb bO148_2; replace bO148_3 := BoxAt.ext hb bO148_3; replace bO148_4 := BoxAt.ext hb bO148_4; replace bO148_5 := BoxAt.ext hb bO148_5; replace bO148_6 := BoxAt.ext hb bO148_6; replace bO148_7 := BoxAt.ext hb bO148_7; replace hr155v := hr155v.ext hb; have hs191 := hb.size; clear hb; have lt192 := bO189_0.lt
     have hS193 := And.intro ((BoxAt.ext (hY40.trans hX39) bO7_0).1) (And.intro ((BoxAt.ext (hY40.trans hX39) bO7_1).1) (And.intro ((BoxAt.ext (hY40.trans hX39) bO7_2).1) (And.intro ((BoxAt.ext (hY40.trans hX39) bO7_3).1) (And.intro ((BoxAt.ext (hX26.trans hX39) bO20_0).1) (And.intro ((BoxAt.ext (hX26.trans hX39) bO20_1).1) (And.intro ((BoxAt.ext (hX26.trans hX39) bO20_2).1) ((BoxAt.ext (hX26.trans hX39) bO20_3).1)))))))
     refine ⟨hS193, ?_⟩
     have hPB194 : PcsAt X190 (some ⟨O148, 0, none⟩) 2 [p4, p5] := PcsB.at (PcsB.cons (p := p4) (o := 0) (o' := 4) rfl (bO148_0.1) (bO148_1.1) (bO148_2.1) (bO148_3.1) (AA.ext (aa_q (hr3v.aa)) (hY40.trans hX39)) (PcsB.cons (p := p5) (o := 4) (o' := 8) rfl (bO148_4.1) (bO148_5.1) (bO148_6.1) (bO148_7.1) (AA.ext (aa_q (hr16v.aa)) (hX26.trans hX39)) PcsB.nil)) rfl (by omega)
     refine wS 4 hR (sn_call (f := 11) (args := #[.int .i64 1, .agg #[.slice (some ⟨B153, 0, none⟩) 24 24], .slice (some ⟨O148, 0, none⟩) 2 2]) (by kernel_rfl) (((Build_c (id := 1) _ _ (by omega) (aa_q (hr155v.aa)) (Ext.refl _) hPB194 (Ext.refl _) (hT.ext hE)).mono fun _ _ h => h.eq (by kernel_rfl) rfl (show _ = [p5', p4] by kernel_rfl)).mono ?_))
     rintro e w209 ⟨a195, n196, k197, a198, n199, c200, rfl, hA201, hfr202, hP203, hnc204, hpl205, hb⟩
     replace hE := hE.trans hb; replace hX39 := hX39.trans hb; replace bO148_0 := BoxAt.ext hb bO148_0; replace bO148_1 := BoxAt.ext hb bO148_1; replace bO148_2 := BoxAt.ext hb bO148_2; replace bO148_3 := BoxAt.ext hb bO148_3; replace bO148_4 := BoxAt.ext hb bO148_4; replace bO148_5 := BoxAt.ext hb bO148_5; replace bO148_6 := BoxAt.ext hb bO148_6; replace bO148_7 := BoxAt.ext hb bO148_7; replace hr155v := hr155v.ext hb; replace bO189_0 := BoxAt.ext hb bO189_0; replace bO189_1 := BoxAt.ext hb bO189_1; replace bO189_2 := BoxAt.ext hb bO189_2; replace bO189_3 := BoxAt.ext hb bO189_3; have hs210 := hb.size; clear hb
     obtain ⟨b206, o207, rfl, rfl, hV208⟩ := va_of hA201 (by kernel_rfl)
     have hfr202l := hfr202 _ rfl
     have lt211 := hV208.lt
     have hP203n : PcsS (fun k => X190.heap.size ≤ k ∧ k < w209.heap.size) w209 a198 n199 ([p5', p4]) := PcsS.both hP203
     have hS212 := And.intro ((BoxAt.ext (hY40.trans hX39) bO7_0).1) (And.intro ((BoxAt.ext (hY40.trans hX39) bO7_1).1) (And.intro ((BoxAt.ext (hY40.trans hX39) bO7_2).1) (And.intro ((BoxAt.ext (hY40.trans hX39) bO7_3).1) (And.intro ((BoxAt.ext (hX26.trans hX39) bO20_0).1) (And.intro ((BoxAt.ext (hX26.trans hX39) bO20_1).1) (And.intro ((BoxAt.ext (hX26.trans hX39) bO20_2).1) ((BoxAt.ext (hX26.trans hX39) bO20_3).1)))))))
     refine ⟨_, rfl, hS212, ?_⟩
     refine wT 5 (.tuple #[.agg #[.int .i64 1, .int .i64 1, .slice (some ⟨b206, o207, none⟩) 24 k197, .slice a198 n199 c200], .int .i64 0]) hR (fun w _ => by kernel_rfl) (hS212) ?_
     refine wT 6 (.agg #[.int .i64 1, .int .i64 1, .slice (some ⟨b206, o207, none⟩) 24 k197, .slice a198 n199 c200]) hR (fun w _ => by kernel_rfl) (hS212) ?_
     refine wT 7 (.int .i64 0) hR (fun w _ => by kernel_rfl) (hS212) ?_
     refine wS 9 hR (sn_setK4 (O := O189) (j := 0) (v0 := .int .i64 1) (v1 := .int .i64 1) (v2 := .slice (some ⟨b206, o207, none⟩) 24 k197) (v3 := .slice a198 n199 c200) (ex_store (p := .pointer (some ⟨O189, 0, none⟩)) (v := .agg #[.int .i64 1, .int .i64 1, .slice (some ⟨b206, o207, none⟩) 24 k197, .slice a198 n199 c200]) rfl (by kernel_rfl) (by kernel_rfl) (st31 bO189_0.1 bO189_0.2 bO189_1.1 bO189_1.2 bO189_2.1 bO189_2.2 bO189_3.1 bO189_3.2)) bO189_0 bO189_1 bO189_2 bO189_3 ?_)
     intro X213 ho hv0 hv1 hv2 hv3 hk; replace hE := ho.ext hE (T (T hs5 (T hs9 (T hs12 (T hs18 (T hs22 (T hs25 (T hs31 (T hs35 (T hs38 (T hs42 (T hs150 hs157))))))))))) (Nat.le_of_eq hzO189)); replace hX39 := ho.ext hX39 (T (T hs42 (T hs150 hs157)) (Nat.le_of_eq hzO189))
     have q9 := fun (j : Nat) (v : Value) (h : BoxAt _ O148 j v) => ho.box (Nat.ne_of_gt (Nat.lt_of_lt_of_le lt151 (T hs157 (Nat.le_of_eq hzO189)))) h
     replace bO148_0 := q9 _ _ bO148_0; replace bO148_1 := q9 _ _ bO148_1; replace bO148_2 := q9 _ _ bO148_2; replace bO148_3 := q9 _ _ bO148_3; replace bO148_4 := q9 _ _ bO148_4; replace bO148_5 := q9 _ _ bO148_5; replace bO148_6 := q9 _ _ bO148_6; replace bO148_7 := q9 _ _ bO148_7; clear q9; replace hr155v := ho.va (Nat.ne_of_gt (Nat.lt_of_lt_of_le lt158 (Nat.le_of_eq hzO189))) hr155v; replace hV208 := ho.va (Nat.ne_of_lt (Nat.lt_of_lt_of_le lt192 hfr202l)) hV208; replace hP203n := hP203n.turn ho (fun h => absurd h.1 (Nat.not_le_of_lt (Nat.lt_of_lt_of_le lt192 (Nat.le_refl _)))); have hs214 : w209.heap.size ≤ X213.heap.size := Nat.le_of_eq ho.size.symm; clear ho hk bO189_0 bO189_1 bO189_2 bO189_3; have bO189_0 := hv0; clear hv0; have bO189_1 := hv1; clear hv1; have bO189_2 := hv2; clear hv2; have bO189_3 := hv3; clear hv3
     have hS215 := And.intro ((BoxAt.ext (hY40.trans hX39) bO7_0).1) (And.intro ((BoxAt.ext (hY40.trans hX39) bO7_1).1) (And.intro ((BoxAt.ext (hY40.trans hX39) bO7_2).1) (And.intro ((BoxAt.ext (hY40.trans hX39) bO7_3).1) (And.intro ((BoxAt.ext (hX26.trans hX39) bO20_0).1) (And.intro ((BoxAt.ext (hX26.trans hX39) bO20_1).1) (And.intro ((BoxAt.ext (hX26.trans hX39) bO20_2).1) ((BoxAt.ext (hX26.trans hX39) bO20_3).1)))))))
     refine ⟨hS215, ?_⟩
     refine wT 10 (.int .i64 0) hR (fun w _ => by kernel_rfl) (hS215) ?_
     refine wd_end hL hR hK (by kernel_rfl) ?_
     have hPx216 := PcsS.pcs hP203n
     have hX217 : Ext X213 X213 := Ext.refl _
     exact qw_leaf hJ [2, 3, 4, 5] (ws' := [(2, .pointer (some ⟨O20, 0, none⟩)), (3, .pointer (some ⟨O33, 0, none⟩)), (4, .pointer (some ⟨O189, 0, none⟩)), (5, .int .i64 0)]) (by kernel_rfl) ⟨B153, O148, b206, o207, k197, a198, n199, c200, O189, rfl, hE, (hX39.trans hX217), hr155v, bO148_0, bO148_1, bO148_2, bO148_3, bO148_4, bO148_5, bO148_6, bO148_7, hnc204, hpl205, hV208, hPx216, bO189_0, bO189_1, bO189_2, bO189_3, (T hs42 (T hs150 (T hs157 (T hs191 (T hs210 hs214))))), (T (T hs42 hs150) hn154), (T hs42 (Nat.le_of_eq hzO148)), (T (T hs42 (T hs150 (T hs157 hs191))) hfr202l), (T (T hs42 (T hs150 hs157)) (Nat.le_of_eq hzO189)), Lib.hid (Nat.ne_of_gt (Nat.lt_of_lt_of_le lt151 hn154)), Lib.hid (Nat.ne_of_lt (Nat.lt_of_lt_of_le lt158 (T hs191 hfr202l))), Lib.hid (Nat.ne_of_lt (Nat.lt_of_lt_of_le lt158 (Nat.le_of_eq hzO189))), Lib.hid (Nat.ne_of_lt (Nat.lt_of_lt_of_le lt151 (T (T hs157 hs191) hfr202l))), Lib.hid (Nat.ne_of_lt (Nat.lt_of_lt_of_le lt151 (T hs157 (Nat.le_of_eq hzO189)))), Lib.hid (Nat.ne_of_gt (Nat.lt_of_lt_of_le lt192 hfr202l))⟩
   ·
    refine sn_new (us := #[.int .i64 0, .int .i64 0, .slice none 0 0, .slice none 0 0]) (t := 31) (by kernel_rfl) ?_
    intro O218 X219 hzO218 hyO218 hb hbx; have ⟨bO218_0, bO218_1, bO218_2, bO218_3⟩ := bx4 hbx; clear hbx
    replace hE := hE.trans hb; replace hX39 := hX39.trans hb; replace bO148_0 := BoxAt.ext hb bO148_0; replace bO148_1 := BoxAt.ext hb bO148_1; replace bO148_2 := BoxAt.ext hb bO148_2; replace bO148_3 := BoxAt.ext hb bO148_3; replace bO148_4 := BoxAt.ext hb bO148_4; replace bO148_5 := BoxAt.ext hb bO148_5; replace bO148_6 := BoxAt.ext hb bO148_6; replace bO148_7 := BoxAt.ext hb bO148_7; have hs220 := hb.size; clear hb; have lt221 := bO218_0.lt
    have hS222 := And.intro ((BoxAt.ext (hY40.trans hX39) bO7_0).1) (And.intro ((BoxAt.ext (hY40.trans hX39) bO7_1).1) (And.intro ((BoxAt.ext (hY40.trans hX39) bO7_2).1) (And.intro ((BoxAt.ext (hY40.trans hX39) bO7_3).1) (And.intro ((BoxAt.ext (hX26.trans hX39) bO20_0).1) (And.intro ((BoxAt.ext (hX26.trans hX39) bO20_1).1) (And.intro ((BoxAt.ext (hX26.trans hX39) bO20_2).1) ((BoxAt.ext (hX26.trans hX39) bO20_3).1)))))))
    refine ⟨hS222, ?_⟩
    refine wS 0 hR (sn_call (f := 26) (args := #[.int .i64 7]) (by kernel_rfl) ((row_c 7 _).mono ?_))
    rintro e w226 ⟨B223, rfl, hn224, hr225, hb⟩
    replace hE := hE.trans hb; replace hX39 := hX39.trans hb; replace bO148_0 := BoxAt.ext hb bO148_0; replace bO148_1 := BoxAt.ext hb bO148_1; replace bO148_2 := BoxAt.ext hb bO148_2; replace bO148_3 := BoxAt.ext hb bO148_3; replace bO148_4 := BoxAt.ext hb bO148_4; replace bO148_5 := BoxAt.ext hb bO148_5; replace bO148_6 := BoxAt.ext hb bO148_6; replace bO148_7 := BoxAt.ext hb bO148_7; replace bO218_0 := BoxAt.ext hb bO218_0; replace bO218_1 := BoxAt.ext hb bO218_1; replace bO218_2 := BoxAt.ext hb bO218_2; replace bO218_3 := BoxAt.ext hb bO218_3; have hs227 := hb.size; clear hb
    have hr225v := hr225.va (show Globe.validL (rowL 7) = true by kernel_rfl)
    have lt228 := hr225v.lt
    have hS229 := And.intro ((BoxAt.ext (hY40.trans hX39) bO7_0).1) (And.intro ((BoxAt.ext (hY40.trans hX39) bO7_1).1) (And.intro ((BoxAt.ext (hY40.trans hX39) bO7_2).1) (And.intro ((BoxAt.ext (hY40.trans hX39) bO7_3).1) (And.intro ((BoxAt.ext (hX26.trans hX39) bO20_0).1) (And.intro ((BoxAt.ext (hX26.trans hX39) bO20_1).1) (And.intro ((BoxAt.ext (hX26.trans hX39) bO20_2).1) ((BoxAt.ext (hX26.trans hX39) bO20_3).1)))))))
    refine ⟨_, rfl, hS229, ?_⟩
    have hPB230 : PcsAt w226 (some ⟨O148, 0, none⟩) 2 [p4, p5] := PcsB.at (PcsB.cons (p := p4) (o := 0) (o' := 4) rfl (bO148_0.1) (bO148_1.1) (bO148_2.1) (bO148_3.1) (AA.ext (aa_q (hr3v.aa)) (hY40.trans hX39)) (PcsB.cons (p := p5) (o := 4) (o' := 8) rfl (bO148_4.1) (bO148_5.1) (bO148_6.1) (bO148_7.1) (AA.ext (aa_q (hr16v.aa)) (hX26.trans hX39)) PcsB.nil)) rfl (by omega)
    refine wS 4 hR (sn_call (f := 11) (args := #[.int .i64 1, .agg #[.slice (some ⟨B223, 0, none⟩) 24 24], .slice (some ⟨O148, 0, none⟩) 2 2]) (by kernel_rfl) (((Build_c (id := 1) _ _ (by omega) (aa_q (hr225v.aa)) (Ext.refl _) hPB230 (Ext.refl _) (hT.ext hE)).mono fun _ _ h => h.eq (by kernel_rfl) rfl (show _ = [p5', p4] by kernel_rfl)).mono ?_))
    rintro e w245 ⟨a231, n232, k233, a234, n235, c236, rfl, hA237, hfr238, hP239, hnc240, hpl241, hb⟩
    replace hE := hE.trans hb; replace hX39 := hX39.trans hb; replace bO148_0 := BoxAt.ext hb bO148_0; replace bO148_1 := BoxAt.ext hb bO148_1; replace bO148_2 := BoxAt.ext hb bO148_2; replace bO148_3 := BoxAt.ext hb bO148_3; replace bO148_4 := BoxAt.ext hb bO148_4; replace bO148_5 := BoxAt.ext hb bO148_5; replace bO148_6 := BoxAt.ext hb bO148_6; replace bO148_7 := BoxAt.ext hb bO148_7; replace bO218_0 := BoxAt.ext hb bO218_0; replace bO218_1 := BoxAt.ext hb bO218_1; replace bO218_2 := BoxAt.ext hb bO218_2; replace bO218_3 := BoxAt.ext hb bO218_3; replace hr225v := hr225v.ext hb; have hs246 := hb.size; clear hb
    obtain ⟨b242, o243, rfl, rfl, hV244⟩ := va_of hA237 (by kernel_rfl)
    have hfr238l := hfr238 _ rfl
    have lt247 := hV244.lt
    have hP239n : PcsS (fun k => w226.heap.size ≤ k ∧ k < w245.heap.size) w245 a234 n235 ([p5', p4]) := PcsS.both hP239
    have hS248 := And.intro ((BoxAt.ext (hY40.trans hX39) bO7_0).1) (And.intro ((BoxAt.ext (hY40.trans hX39) bO7_1).1) (And.intro ((BoxAt.ext (hY40.trans hX39) bO7_2).1) (And.intro ((BoxAt.ext (hY40.trans hX39) bO7_3).1) (And.intro ((BoxAt.ext (hX26.trans hX39) bO20_0).1) (And.intro ((BoxAt.ext (hX26.trans hX39) bO20_1).1) (And.intro ((BoxAt.ext (hX26.trans hX39) bO20_2).1) ((BoxAt.ext (hX26.trans hX39) bO20_3).1)))))))
    refine ⟨_, rfl, hS248, ?_⟩
    refine wT 5 (.tuple #[.agg #[.int .i64 1, .int .i64 1, .slice (some ⟨b242, o243, none⟩) 24 k233, .slice a234 n235 c236], .int .i64 0]) hR (fun w _ => by kernel_rfl) (hS248) ?_
    refine wT 6 (.agg #[.int .i64 1, .int .i64 1, .slice (some ⟨b242, o243, none⟩) 24 k233, .slice a234 n235 c236]) hR (fun w _ => by kernel_rfl) (hS248) ?_
    refine wT 7 (.int .i64 0) hR (fun w _ => by kernel_rfl) (hS248) ?_
    refine wS 9 hR (sn_setK4 (O := O218) (j := 0) (v0 := .int .i64 1) (v1 := .int .i64 1) (v2 := .slice (some ⟨b242, o243, none⟩) 24 k233) (v3 := .slice a234 n235 c236) (ex_store (p := .pointer (some ⟨O218, 0, none⟩)) (v := .agg #[.int .i64 1, .int .i64 1, .slice (some ⟨b242, o243, none⟩) 24 k233, .slice a234 n235 c236]) rfl (by kernel_rfl) (by kernel_rfl) (st31 bO218_0.1 bO218_0.2 bO218_1.1 bO218_1.2 bO218_2.1 bO218_2.2 bO218_3.1 bO218_3.2)) bO218_0 bO218_1 bO218_2 bO218_3 ?_)
    intro X249 ho hv0 hv1 hv2 hv3 hk; replace hE := ho.ext hE (T (T hs5 (T hs9 (T hs12 (T hs18 (T hs22 (T hs25 (T hs31 (T hs35 (T hs38 (T hs42 hs150)))))))))) (Nat.le_of_eq hzO218)); replace hX39 := ho.ext hX39 (T (T hs42 hs150) (Nat.le_of_eq hzO218))
    have q9 := fun (j : Nat) (v : Value) (h : BoxAt _ O148 j v) => ho.box (Nat.ne_of_gt (Nat.lt_of_lt_of_le lt151 (Nat.le_of_eq hzO218))) h
    replace bO148_0 := q9 _ _ bO148_0; replace bO148_1 := q9 _ _ bO148_1; replace bO148_2 := q9 _ _ bO148_2; replace bO148_3 := q9 _ _ bO148_3; replace bO148_4 := q9 _ _ bO148_4; replace bO148_5 := q9 _ _ bO148_5; replace bO148_6 := q9 _ _ bO148_6; replace bO148_7 := q9 _ _ bO148_7; clear q9; replace hr225v := ho.va (Nat.ne_of_lt (Nat.lt_of_lt_of_le lt221 hn224)) hr225v; replace hV244 := ho.va (Nat.ne_of_lt (Nat.lt_of_lt_of_le lt221 (T hs227 hfr238l))) hV244; replace hP239n := hP239n.turn ho (fun h => absurd h.1 (Nat.not_le_of_lt (Nat.lt_of_lt_of_le lt221 hs227))); have hs250 : w245.heap.size ≤ X249.heap.size := Nat.le_of_eq ho.size.symm; clear ho hk bO218_0 bO218_1 bO218_2 bO218_3; have bO218_0 := hv0; clear hv0; have bO218_1 := hv1; clear hv1; have bO218_2 := hv2; clear hv2; have bO218_3 := hv3; clear hv3
    have hS251 := And.intro ((BoxAt.ext (hY40.trans hX39) bO7_0).1) (And.intro ((BoxAt.ext (hY40.trans hX39) bO7_1).1) (And.intro ((BoxAt.ext (hY40.trans hX39) bO7_2).1) (And.intro ((BoxAt.ext (hY40.trans hX39) bO7_3).1) (And.intro ((BoxAt.ext (hX26.trans hX39) bO20_0).1) (And.intro ((BoxAt.ext (hX26.trans hX39) bO20_1).1) (And.intro ((BoxAt.ext (hX26.trans hX39) bO20_2).1) ((BoxAt.ext (hX26.trans hX39) bO20_3).1)))))))
    refine ⟨hS251, ?_⟩
    refine wT 10 (.int .i64 0) hR (fun w _ => by kernel_rfl) (hS251) ?_
    refine wd_end hL hR hK (by kernel_rfl) ?_
    have hPx252 := PcsS.pcs hP239n
    have hX253 : Ext X249 X249 := Ext.refl _
    exact qw_leaf hJ [2, 3, 4, 5] (ws' := [(2, .pointer (some ⟨O20, 0, none⟩)), (3, .pointer (some ⟨O33, 0, none⟩)), (4, .pointer (some ⟨O218, 0, none⟩)), (5, .int .i64 0)]) (by kernel_rfl) ⟨B223, O148, b242, o243, k233, a234, n235, c236, O218, rfl, hE, (hX39.trans hX253), hr225v, bO148_0, bO148_1, bO148_2, bO148_3, bO148_4, bO148_5, bO148_6, bO148_7, hnc240, hpl241, hV244, hPx252, bO218_0, bO218_1, bO218_2, bO218_3, (T hs42 (T hs150 (T hs220 (T hs227 (T hs246 hs250))))), (T (T hs42 (T hs150 hs220)) hn224), (T hs42 (Nat.le_of_eq hzO148)), (T (T hs42 (T hs150 (T hs220 hs227))) hfr238l), (T (T hs42 hs150) (Nat.le_of_eq hzO218)), Lib.hid (Nat.ne_of_gt (Nat.lt_of_lt_of_le lt151 (T hs220 hn224))), Lib.hid (Nat.ne_of_lt (Nat.lt_of_lt_of_le lt228 hfr238l)), Lib.hid (Nat.ne_of_gt (Nat.lt_of_lt_of_le lt221 hn224)), Lib.hid (Nat.ne_of_lt (Nat.lt_of_lt_of_le lt151 (T (T hs220 hs227) hfr238l))), Lib.hid (Nat.ne_of_lt (Nat.lt_of_lt_of_le lt151 (Nat.le_of_eq hzO218))), Lib.hid (Nat.ne_of_gt (Nat.lt_of_lt_of_le lt221 (T hs227 hfr238l)))⟩
  ·
   refine sn_new (us := #[.int .i64 0, .int .i64 0, .slice none 0 0, .slice none 0 0]) (t := 31) (by kernel_rfl) ?_
   intro O254 X255 hzO254 hyO254 hb hbx; have ⟨bO254_0, bO254_1, bO254_2, bO254_3⟩ := bx4 hbx; clear hbx
   replace hE := hE.trans hb; replace hX39 := hX39.trans hb; have hs256 := hb.size; clear hb; have lt257 := bO254_0.lt
   have hS258 := And.intro ((BoxAt.ext (hY40.trans hX39) bO7_0).1) (And.intro ((BoxAt.ext (hY40.trans hX39) bO7_1).1) (And.intro ((BoxAt.ext (hY40.trans hX39) bO7_2).1) (And.intro ((BoxAt.ext (hY40.trans hX39) bO7_3).1) (And.intro ((BoxAt.ext (hX26.trans hX39) bO20_0).1) (And.intro ((BoxAt.ext (hX26.trans hX39) bO20_1).1) (And.intro ((BoxAt.ext (hX26.trans hX39) bO20_2).1) ((BoxAt.ext (hX26.trans hX39) bO20_3).1)))))))
   refine ⟨hS258, ?_⟩
   refine wd_two 0 3 hR rfl rfl (by kernel_rfl) (by kernel_rfl) (by kernel_rfl) (by kernel_rfl) ?_ ?_
   ·
    refine sn_call (f := 26) (args := #[.int .i64 7]) (by kernel_rfl) ((row_c 7 _).mono ?_)
    rintro e w262 ⟨B259, rfl, hn260, hr261, hb⟩
    replace hE := hE.trans hb; replace hX39 := hX39.trans hb; replace bO254_0 := BoxAt.ext hb bO254_0; replace bO254_1 := BoxAt.ext hb bO254_1; replace bO254_2 := BoxAt.ext hb bO254_2; replace bO254_3 := BoxAt.ext hb bO254_3; have hs263 := hb.size; clear hb
    have hr261v := hr261.va (show Globe.validL (rowL 7) = true by kernel_rfl)
    have lt264 := hr261v.lt
    have hS265 := And.intro ((BoxAt.ext (hY40.trans hX39) bO7_0).1) (And.intro ((BoxAt.ext (hY40.trans hX39) bO7_1).1) (And.intro ((BoxAt.ext (hY40.trans hX39) bO7_2).1) (And.intro ((BoxAt.ext (hY40.trans hX39) bO7_3).1) (And.intro ((BoxAt.ext (hX26.trans hX39) bO20_0).1) (And.intro ((BoxAt.ext (hX26.trans hX39) bO20_1).1) (And.intro ((BoxAt.ext (hX26.trans hX39) bO20_2).1) ((BoxAt.ext (hX26.trans hX39) bO20_3).1)))))))
    refine ⟨_, rfl, hS265, ?_⟩
    refine wS 3 hR (sn_newS (us := #[.int .i64 4, .int .i64 100, .bool true, .slice (some ⟨B1, 0, none⟩) 24 24, .int .i64 5, .int .i64 200, .bool false, .slice (some ⟨B14, 0, none⟩) 24 24]) (t := 41) (k := 2) (c := 2) (by kernel_rfl) ?_)
    intro O266 X267 hzO266 hyO266 hb hbx; have ⟨bO266_0, bO266_1, bO266_2, bO266_3, bO266_4, bO266_5, bO266_6, bO266_7⟩ := bx8 hbx; clear hbx
    replace hE := hE.trans hb; replace hX39 := hX39.trans hb; replace bO254_0 := BoxAt.ext hb bO254_0; replace bO254_1 := BoxAt.ext hb bO254_1; replace bO254_2 := BoxAt.ext hb bO254_2; replace bO254_3 := BoxAt.ext hb bO254_3; replace hr261v := hr261v.ext hb; have hs268 := hb.size; clear hb; have lt269 := bO266_0.lt
    have hS270 := And.intro ((BoxAt.ext (hY40.trans hX39) bO7_0).1) (And.intro ((BoxAt.ext (hY40.trans hX39) bO7_1).1) (And.intro ((BoxAt.ext (hY40.trans hX39) bO7_2).1) (And.intro ((BoxAt.ext (hY40.trans hX39) bO7_3).1) (And.intro ((BoxAt.ext (hX26.trans hX39) bO20_0).1) (And.intro ((BoxAt.ext (hX26.trans hX39) bO20_1).1) (And.intro ((BoxAt.ext (hX26.trans hX39) bO20_2).1) ((BoxAt.ext (hX26.trans hX39) bO20_3).1)))))))
    refine ⟨hS270, ?_⟩
    have hPB271 : PcsAt X267 (some ⟨O266, 0, none⟩) 2 [p4, p5] := PcsB.at (PcsB.cons (p := p4) (o := 0) (o' := 4) rfl (bO266_0.1) (bO266_1.1) (bO266_2.1) (bO266_3.1) (AA.ext (aa_q (hr3v.aa)) (hY40.trans hX39)) (PcsB.cons (p := p5) (o := 4) (o' := 8) rfl (bO266_4.1) (bO266_5.1) (bO266_6.1) (bO266_7.1) (AA.ext (aa_q (hr16v.aa)) (hX26.trans hX39)) PcsB.nil)) rfl (by omega)
    refine wS 4 hR (sn_call (f := 11) (args := #[.int .i64 1, .agg #[.slice (some ⟨B259, 0, none⟩) 24 24], .slice (some ⟨O266, 0, none⟩) 2 2]) (by kernel_rfl) (((Build_c (id := 1) _ _ (by omega) (aa_q (hr261v.aa)) (Ext.refl _) hPB271 (Ext.refl _) (hT.ext hE)).mono fun _ _ h => h.eq (by kernel_rfl) rfl (show _ = [p5', p4] by kernel_rfl)).mono ?_))
    rintro e w286 ⟨a272, n273, k274, a275, n276, c277, rfl, hA278, hfr279, hP280, hnc281, hpl282, hb⟩
    replace hE := hE.trans hb; replace hX39 := hX39.trans hb; replace bO254_0 := BoxAt.ext hb bO254_0; replace bO254_1 := BoxAt.ext hb bO254_1; replace bO254_2 := BoxAt.ext hb bO254_2; replace bO254_3 := BoxAt.ext hb bO254_3; replace hr261v := hr261v.ext hb; replace bO266_0 := BoxAt.ext hb bO266_0; replace bO266_1 := BoxAt.ext hb bO266_1; replace bO266_2 := BoxAt.ext hb bO266_2; replace bO266_3 := BoxAt.ext hb bO266_3; replace bO266_4 := BoxAt.ext hb bO266_4; replace bO266_5 := BoxAt.ext hb bO266_5; replace bO266_6 := BoxAt.ext hb bO266_6; replace bO266_7 := BoxAt.ext hb bO266_7; have hs287 := hb.size; clear hb
    obtain ⟨b283, o284, rfl, rfl, hV285⟩ := va_of hA278 (by kernel_rfl)
    have hfr279l := hfr279 _ rfl
    have lt288 := hV285.lt
    have hP280n : PcsS (fun k => X267.heap.size ≤ k ∧ k < w286.heap.size) w286 a275 n276 ([p5', p4]) := PcsS.both hP280
    have hS289 := And.intro ((BoxAt.ext (hY40.trans hX39) bO7_0).1) (And.intro ((BoxAt.ext (hY40.trans hX39) bO7_1).1) (And.intro ((BoxAt.ext (hY40.trans hX39) bO7_2).1) (And.intro ((BoxAt.ext (hY40.trans hX39) bO7_3).1) (And.intro ((BoxAt.ext (hX26.trans hX39) bO20_0).1) (And.intro ((BoxAt.ext (hX26.trans hX39) bO20_1).1) (And.intro ((BoxAt.ext (hX26.trans hX39) bO20_2).1) ((BoxAt.ext (hX26.trans hX39) bO20_3).1)))))))
    refine ⟨_, rfl, hS289, ?_⟩
    refine wT 5 (.tuple #[.agg #[.int .i64 1, .int .i64 1, .slice (some ⟨b283, o284, none⟩) 24 k274, .slice a275 n276 c277], .int .i64 0]) hR (fun w _ => by kernel_rfl) (hS289) ?_
    refine wT 6 (.agg #[.int .i64 1, .int .i64 1, .slice (some ⟨b283, o284, none⟩) 24 k274, .slice a275 n276 c277]) hR (fun w _ => by kernel_rfl) (hS289) ?_
    refine wT 7 (.int .i64 0) hR (fun w _ => by kernel_rfl) (hS289) ?_
    refine wS 9 hR (sn_setK4 (O := O254) (j := 0) (v0 := .int .i64 1) (v1 := .int .i64 1) (v2 := .slice (some ⟨b283, o284, none⟩) 24 k274) (v3 := .slice a275 n276 c277) (ex_store (p := .pointer (some ⟨O254, 0, none⟩)) (v := .agg #[.int .i64 1, .int .i64 1, .slice (some ⟨b283, o284, none⟩) 24 k274, .slice a275 n276 c277]) rfl (by kernel_rfl) (by kernel_rfl) (st31 bO254_0.1 bO254_0.2 bO254_1.1 bO254_1.2 bO254_2.1 bO254_2.2 bO254_3.1 bO254_3.2)) bO254_0 bO254_1 bO254_2 bO254_3 ?_)
    intro X290 ho hv0 hv1 hv2 hv3 hk; replace hE := ho.ext hE (T (T hs5 (T hs9 (T hs12 (T hs18 (T hs22 (T hs25 (T hs31 (T hs35 (T hs38 hs42))))))))) (Nat.le_of_eq hzO254)); replace hX39 := ho.ext hX39 (T hs42 (Nat.le_of_eq hzO254)); replace hr261v := ho.va (Nat.ne_of_lt (Nat.lt_of_lt_of_le lt257 hn260)) hr261v
    have q9 := fun (j : Nat) (v : Value) (h : BoxAt _ O266 j v) => ho.box (Nat.ne_of_lt (Nat.lt_of_lt_of_le lt257 (T hs263 (Nat.le_of_eq hzO266)))) h
    replace bO266_0 := q9 _ _ bO266_0; replace bO266_1 := q9 _ _ bO266_1; replace bO266_2 := q9 _ _ bO266_2; replace bO266_3 := q9 _ _ bO266_3; replace bO266_4 := q9 _ _ bO266_4; replace bO266_5 := q9 _ _ bO266_5; replace bO266_6 := q9 _ _ bO266_6; replace bO266_7 := q9 _ _ bO266_7; clear q9; replace hV285 := ho.va (Nat.ne_of_lt (Nat.lt_of_lt_of_le lt257 (T (T hs263 hs268) hfr279l))) hV285; replace hP280n := hP280n.turn ho (fun h => absurd h.1 (Nat.not_le_of_lt (Nat.lt_of_lt_of_le lt257 (T hs263 hs268)))); have hs291 : w286.heap.size ≤ X290.heap.size := Nat.le_of_eq ho.size.symm; clear ho hk bO254_0 bO254_1 bO254_2 bO254_3; have bO254_0 := hv0; clear hv0; have bO254_1 := hv1; clear hv1; have bO254_2 := hv2; clear hv2; have bO254_3 := hv3; clear hv3
    have hS292 := And.intro ((BoxAt.ext (hY40.trans hX39) bO7_0).1) (And.intro ((BoxAt.ext (hY40.trans hX39) bO7_1).1) (And.intro ((BoxAt.ext (hY40.trans hX39) bO7_2).1) (And.intro ((BoxAt.ext (hY40.trans hX39) bO7_3).1) (And.intro ((BoxAt.ext (hX26.trans hX39) bO20_0).1) (And.intro ((BoxAt.ext (hX26.trans hX39) bO20_1).1) (And.intro ((BoxAt.ext (hX26.trans hX39) bO20_2).1) ((BoxAt.ext (hX26.trans hX39) bO20_3).1)))))))
    refine ⟨hS292, ?_⟩
    refine wT 10 (.int .i64 0) hR (fun w _ => by kernel_rfl) (hS292) ?_
    refine wd_end hL hR hK (by kernel_rfl) ?_
    have hPx293 := PcsS.pcs hP280n
    have hX294 : Ext X290 X290 := Ext.refl _
    exact qw_leaf hJ [2, 3, 4, 5] (ws' := [(2, .pointer (some ⟨O20, 0, none⟩)), (3, .pointer (some ⟨O33, 0, none⟩)), (4, .pointer (some ⟨O254, 0, none⟩)), (5, .int .i64 0)]) (by kernel_rfl) ⟨B259, O266, b283, o284, k274, a275, n276, c277, O254, rfl, hE, (hX39.trans hX294), hr261v, bO266_0, bO266_1, bO266_2, bO266_3, bO266_4, bO266_5, bO266_6, bO266_7, hnc281, hpl282, hV285, hPx293, bO254_0, bO254_1, bO254_2, bO254_3, (T hs42 (T hs256 (T hs263 (T hs268 (T hs287 hs291))))), (T (T hs42 hs256) hn260), (T (T hs42 (T hs256 hs263)) (Nat.le_of_eq hzO266)), (T (T hs42 (T hs256 (T hs263 hs268))) hfr279l), (T hs42 (Nat.le_of_eq hzO254)), Lib.hid (Nat.ne_of_lt (Nat.lt_of_lt_of_le lt264 (Nat.le_of_eq hzO266))), Lib.hid (Nat.ne_of_lt (Nat.lt_of_lt_of_le lt264 (T hs268 hfr279l))), Lib.hid (Nat.ne_of_gt (Nat.lt_of_lt_of_le lt257 hn260)), Lib.hid (Nat.ne_of_lt (Nat.lt_of_lt_of_le lt269 hfr279l)), Lib.hid (Nat.ne_of_gt (Nat.lt_of_lt_of_le lt257 (T hs263 (Nat.le_of_eq hzO266)))), Lib.hid (Nat.ne_of_gt (Nat.lt_of_lt_of_le lt257 (T (T hs263 hs268) hfr279l)))⟩
   ·
    refine sn_newS (us := #[.int .i64 4, .int .i64 100, .bool true, .slice (some ⟨B1, 0, none⟩) 24 24, .int .i64 5, .int .i64 200, .bool false, .slice (some ⟨B14, 0, none⟩) 24 24]) (t := 41) (k := 2) (c := 2) (by kernel_rfl) ?_
    intro O295 X296 hzO295 hyO295 hb hbx; have ⟨bO295_0, bO295_1, bO295_2, bO295_3, bO295_4, bO295_5, bO295_6, bO295_7⟩ := bx8 hbx; clear hbx
    replace hE := hE.trans hb; replace hX39 := hX39.trans hb; replace bO254_0 := BoxAt.ext hb bO254_0; replace bO254_1 := BoxAt.ext hb bO254_1; replace bO254_2 := BoxAt.ext hb bO254_2; replace bO254_3 := BoxAt.ext hb bO254_3; have hs297 := hb.size; clear hb; have lt298 := bO295_0.lt
    have hS299 := And.intro ((BoxAt.ext (hY40.trans hX39) bO7_0).1) (And.intro ((BoxAt.ext (hY40.trans hX39) bO7_1).1) (And.intro ((BoxAt.ext (hY40.trans hX39) bO7_2).1) (And.intro ((BoxAt.ext (hY40.trans hX39) bO7_3).1) (And.intro ((BoxAt.ext (hX26.trans hX39) bO20_0).1) (And.intro ((BoxAt.ext (hX26.trans hX39) bO20_1).1) (And.intro ((BoxAt.ext (hX26.trans hX39) bO20_2).1) ((BoxAt.ext (hX26.trans hX39) bO20_3).1)))))))
    refine ⟨hS299, ?_⟩
    refine wS 0 hR (sn_call (f := 26) (args := #[.int .i64 7]) (by kernel_rfl) ((row_c 7 _).mono ?_))
    rintro e w303 ⟨B300, rfl, hn301, hr302, hb⟩
    replace hE := hE.trans hb; replace hX39 := hX39.trans hb; replace bO254_0 := BoxAt.ext hb bO254_0; replace bO254_1 := BoxAt.ext hb bO254_1; replace bO254_2 := BoxAt.ext hb bO254_2; replace bO254_3 := BoxAt.ext hb bO254_3; replace bO295_0 := BoxAt.ext hb bO295_0; replace bO295_1 := BoxAt.ext hb bO295_1; replace bO295_2 := BoxAt.ext hb bO295_2; replace bO295_3 := BoxAt.ext hb bO295_3; replace bO295_4 := BoxAt.ext hb bO295_4; replace bO295_5 := BoxAt.ext hb bO295_5; replace bO295_6 := BoxAt.ext hb bO295_6; replace bO295_7 := BoxAt.ext hb bO295_7; have hs304 := hb.size; clear hb
    have hr302v := hr302.va (show Globe.validL (rowL 7) = true by kernel_rfl)
    have lt305 := hr302v.lt
    have hS306 := And.intro ((BoxAt.ext (hY40.trans hX39) bO7_0).1) (And.intro ((BoxAt.ext (hY40.trans hX39) bO7_1).1) (And.intro ((BoxAt.ext (hY40.trans hX39) bO7_2).1) (And.intro ((BoxAt.ext (hY40.trans hX39) bO7_3).1) (And.intro ((BoxAt.ext (hX26.trans hX39) bO20_0).1) (And.intro ((BoxAt.ext (hX26.trans hX39) bO20_1).1) (And.intro ((BoxAt.ext (hX26.trans hX39) bO20_2).1) ((BoxAt.ext (hX26.trans hX39) bO20_3).1)))))))
    refine ⟨_, rfl, hS306, ?_⟩
    have hPB307 : PcsAt w303 (some ⟨O295, 0, none⟩) 2 [p4, p5] := PcsB.at (PcsB.cons (p := p4) (o := 0) (o' := 4) rfl (bO295_0.1) (bO295_1.1) (bO295_2.1) (bO295_3.1) (AA.ext (aa_q (hr3v.aa)) (hY40.trans hX39)) (PcsB.cons (p := p5) (o := 4) (o' := 8) rfl (bO295_4.1) (bO295_5.1) (bO295_6.1) (bO295_7.1) (AA.ext (aa_q (hr16v.aa)) (hX26.trans hX39)) PcsB.nil)) rfl (by omega)
    refine wS 4 hR (sn_call (f := 11) (args := #[.int .i64 1, .agg #[.slice (some ⟨B300, 0, none⟩) 24 24], .slice (some ⟨O295, 0, none⟩) 2 2]) (by kernel_rfl) (((Build_c (id := 1) _ _ (by omega) (aa_q (hr302v.aa)) (Ext.refl _) hPB307 (Ext.refl _) (hT.ext hE)).mono fun _ _ h => h.eq (by kernel_rfl) rfl (show _ = [p5', p4] by kernel_rfl)).mono ?_))
    rintro e w322 ⟨a308, n309, k310, a311, n312, c313, rfl, hA314, hfr315, hP316, hnc317, hpl318, hb⟩
    replace hE := hE.trans hb; replace hX39 := hX39.trans hb; replace bO254_0 := BoxAt.ext hb bO254_0; replace bO254_1 := BoxAt.ext hb bO254_1; replace bO254_2 := BoxAt.ext hb bO254_2; replace bO254_3 := BoxAt.ext hb bO254_3; replace bO295_0 := BoxAt.ext hb bO295_0; replace bO295_1 := BoxAt.ext hb bO295_1; replace bO295_2 := BoxAt.ext hb bO295_2; replace bO295_3 := BoxAt.ext hb bO295_3; replace bO295_4 := BoxAt.ext hb bO295_4; replace bO295_5 := BoxAt.ext hb bO295_5; replace bO295_6 := BoxAt.ext hb bO295_6; replace bO295_7 := BoxAt.ext hb bO295_7; replace hr302v := hr302v.ext hb; have hs323 := hb.size; clear hb
    obtain ⟨b319, o320, rfl, rfl, hV321⟩ := va_of hA314 (by kernel_rfl)
    have hfr315l := hfr315 _ rfl
    have lt324 := hV321.lt
    have hP316n : PcsS (fun k => w303.heap.size ≤ k ∧ k < w322.heap.size) w322 a311 n312 ([p5', p4]) := PcsS.both hP316
    have hS325 := And.intro ((BoxAt.ext (hY40.trans hX39) bO7_0).1) (And.intro ((BoxAt.ext (hY40.trans hX39) bO7_1).1) (And.intro ((BoxAt.ext (hY40.trans hX39) bO7_2).1) (And.intro ((BoxAt.ext (hY40.trans hX39) bO7_3).1) (And.intro ((BoxAt.ext (hX26.trans hX39) bO20_0).1) (And.intro ((BoxAt.ext (hX26.trans hX39) bO20_1).1) (And.intro ((BoxAt.ext (hX26.trans hX39) bO20_2).1) ((BoxAt.ext (hX26.trans hX39) bO20_3).1)))))))
    refine ⟨_, rfl, hS325, ?_⟩
    refine wT 5 (.tuple #[.agg #[.int .i64 1, .int .i64 1, .slice (some ⟨b319, o320, none⟩) 24 k310, .slice a311 n312 c313], .int .i64 0]) hR (fun w _ => by kernel_rfl) (hS325) ?_
    refine wT 6 (.agg #[.int .i64 1, .int .i64 1, .slice (some ⟨b319, o320, none⟩) 24 k310, .slice a311 n312 c313]) hR (fun w _ => by kernel_rfl) (hS325) ?_
    refine wT 7 (.int .i64 0) hR (fun w _ => by kernel_rfl) (hS325) ?_
    refine wS 9 hR (sn_setK4 (O := O254) (j := 0) (v0 := .int .i64 1) (v1 := .int .i64 1) (v2 := .slice (some ⟨b319, o320, none⟩) 24 k310) (v3 := .slice a311 n312 c313) (ex_store (p := .pointer (some ⟨O254, 0, none⟩)) (v := .agg #[.int .i64 1, .int .i64 1, .slice (some ⟨b319, o320, none⟩) 24 k310, .slice a311 n312 c313]) rfl (by kernel_rfl) (by kernel_rfl) (st31 bO254_0.1 bO254_0.2 bO254_1.1 bO254_1.2 bO254_2.1 bO254_2.2 bO254_3.1 bO254_3.2)) bO254_0 bO254_1 bO254_2 bO254_3 ?_)
    intro X326 ho hv0 hv1 hv2 hv3 hk; replace hE := ho.ext hE (T (T hs5 (T hs9 (T hs12 (T hs18 (T hs22 (T hs25 (T hs31 (T hs35 (T hs38 hs42))))))))) (Nat.le_of_eq hzO254)); replace hX39 := ho.ext hX39 (T hs42 (Nat.le_of_eq hzO254))
    have q9 := fun (j : Nat) (v : Value) (h : BoxAt _ O295 j v) => ho.box (Nat.ne_of_lt (Nat.lt_of_lt_of_le lt257 (Nat.le_of_eq hzO295))) h
    replace bO295_0 := q9 _ _ bO295_0; replace bO295_1 := q9 _ _ bO295_1; replace bO295_2 := q9 _ _ bO295_2; replace bO295_3 := q9 _ _ bO295_3; replace bO295_4 := q9 _ _ bO295_4; replace bO295_5 := q9 _ _ bO295_5; replace bO295_6 := q9 _ _ bO295_6; replace bO295_7 := q9 _ _ bO295_7; clear q9; replace hr302v := ho.va (Nat.ne_of_lt (Nat.lt_of_lt_of_le lt257 (T hs297 hn301))) hr302v; replace hV321 := ho.va (Nat.ne_of_lt (Nat.lt_of_lt_of_le lt257 (T (T hs297 hs304) hfr315l))) hV321; replace hP316n := hP316n.turn ho (fun h => absurd h.1 (Nat.not_le_of_lt (Nat.lt_of_lt_of_le lt257 (T hs297 hs304)))); have hs327 : w322.heap.size ≤ X326.heap.size := Nat.le_of_eq ho.size.symm; clear ho hk bO254_0 bO254_1 bO254_2 bO254_3; have bO254_0 := hv0; clear hv0; have bO254_1 := hv1; clear hv1; have bO254_2 := hv2; clear hv2; have bO254_3 := hv3; clear hv3
    have hS328 := And.intro ((BoxAt.ext (hY40.trans hX39) bO7_0).1) (And.intro ((BoxAt.ext (hY40.trans hX39) bO7_1).1) (And.intro ((BoxAt.ext (hY40.trans hX39) bO7_2).1) (And.intro ((BoxAt.ext (hY40.trans hX39) bO7_3).1) (And.intro ((BoxAt.ext (hX26.trans hX39) bO20_0).1) (And.intro ((BoxAt.ext (hX26.trans hX39) bO20_1).1) (And.intro ((BoxAt.ext (hX26.trans hX39) bO20_2).1) ((BoxAt.ext (hX26.trans hX39) bO20_3).1)))))))
    refine ⟨hS328, ?_⟩
    refine wT 10 (.int .i64 0) hR (fun w _ => by kernel_rfl) (hS328) ?_
    refine wd_end hL hR hK (by kernel_rfl) ?_
    have hPx329 := PcsS.pcs hP316n
    have hX330 : Ext X326 X326 := Ext.refl _
    exact qw_leaf hJ [2, 3, 4, 5] (ws' := [(2, .pointer (some ⟨O20, 0, none⟩)), (3, .pointer (some ⟨O33, 0, none⟩)), (4, .pointer (some ⟨O254, 0, none⟩)), (5, .int .i64 0)]) (by kernel_rfl) ⟨B300, O295, b319, o320, k310, a311, n312, c313, O254, rfl, hE, (hX39.trans hX330), hr302v, bO295_0, bO295_1, bO295_2, bO295_3, bO295_4, bO295_5, bO295_6, bO295_7, hnc317, hpl318, hV321, hPx329, bO254_0, bO254_1, bO254_2, bO254_3, (T hs42 (T hs256 (T hs297 (T hs304 (T hs323 hs327))))), (T (T hs42 (T hs256 hs297)) hn301), (T (T hs42 hs256) (Nat.le_of_eq hzO295)), (T (T hs42 (T hs256 (T hs297 hs304))) hfr315l), (T hs42 (Nat.le_of_eq hzO254)), Lib.hid (Nat.ne_of_gt (Nat.lt_of_lt_of_le lt298 hn301)), Lib.hid (Nat.ne_of_lt (Nat.lt_of_lt_of_le lt305 hfr315l)), Lib.hid (Nat.ne_of_gt (Nat.lt_of_lt_of_le lt257 (T hs297 hn301))), Lib.hid (Nat.ne_of_lt (Nat.lt_of_lt_of_le lt298 (T hs304 hfr315l))), Lib.hid (Nat.ne_of_gt (Nat.lt_of_lt_of_le lt257 (Nat.le_of_eq hzO295))), Lib.hid (Nat.ne_of_gt (Nat.lt_of_lt_of_le lt257 (T (T hs297 hs304) hfr315l)))⟩
 ·
  clear hE hX39
  rintro L ws Y331 ⟨B44, O51, b68, o69, k59, a60, n61, c62, O75, rfl, hE, hX39, hr46v, bO51_0, bO51_1, bO51_2, bO51_3, bO51_4, bO51_5, bO51_6, bO51_7, hnc66, hpl67, hV70, hPx83, bO75_0, bO75_1, bO75_2, bO75_3, hn332, hn333, hn334, hn335, hn336, hn337, hn338, hn339, hn340, hn341, hn342⟩
  have hX343 : Ext Y331 Y331 := Ext.refl _; have lt344 := hr46v.lt; have lt345 := bO51_0.lt; have lt346 := hV70.lt; have lt347 := bO75_0.lt; refine qw_then ?_; refine cw_seq ?_; refine cw_plain ?_
  refine pU (.agg #[.int .i64 1, .int .i64 1, .slice (some ⟨b68, o69, none⟩) 24 k59, .slice a60 n61 c62]) (ex_load rfl (by kernel_rfl) (ld31 (bO75_0.1) (bO75_1.1) (bO75_2.1) (bO75_3.1))) ?_
  refine pU (.agg #[.int .i64 6, .int .i64 300, .bool true, .slice (some ⟨B27, 0, none⟩) 24 24]) (ex_load rfl (by kernel_rfl) (ld41 ((BoxAt.ext (hX39.trans hX343) bO33_0).1) ((BoxAt.ext (hX39.trans hX343) bO33_1).1) ((BoxAt.ext (hX39.trans hX343) bO33_2).1) ((BoxAt.ext (hX39.trans hX343) bO33_3).1))) ?_
  refine pS (sn_call (f := 21) (args := #[.agg #[.int .i64 1, .int .i64 1, .slice (some ⟨b68, o69, none⟩) 24 k59, .slice a60 n61 c62], .agg #[.int .i64 6, .int .i64 300, .bool true, .slice (some ⟨B27, 0, none⟩) 24 24]]) (by kernel_rfl) (((Next_c (id := 1) (ver := 1) (x := p6) _ _ (by omega) (aa_q (hV70.aa)) (Ext.refl _) (hPx83) (Ext.refl _) (hT.ext hE) hpl67 (aa_q (hr29v.aa)) (hX39.trans hX343)).mono fun _ _ h => h.eq (by kernel_rfl) (show _ = (2 : Int) by kernel_rfl) (show _ = [p5', p4', p6] by kernel_rfl)).mono ?_))
  rintro e w362 ⟨a348, n349, k350, a351, n352, c353, rfl, hA354, hfr355, hP356, hnc357, hpl358, hb⟩
  replace hE := hE.trans hb; replace hX343 := hX343.trans hb; have hs363 := hb.size; clear hb
  obtain ⟨b359, o360, rfl, rfl, hV361⟩ := va_of hA354 (by kernel_rfl)
  have hfr355l := hfr355 _ rfl
  have lt364 := hV361.lt
  have hP356n : PcsS (fun k => Y331.heap.size ≤ k ∧ k < w362.heap.size) w362 a351 n352 ([p5', p4', p6]) := PcsS.both hP356
  refine ⟨_, rfl, ?_⟩
  refine pT (.tuple #[.agg #[.int .i64 1, .int .i64 2, .slice (some ⟨b359, o360, none⟩) 24 k350, .slice a351 n352 c353], .int .i64 0]) ?_; refine pT (.agg #[.int .i64 1, .int .i64 2, .slice (some ⟨b359, o360, none⟩) 24 k350, .slice a351 n352 c353]) ?_; refine pT (.int .i64 0) ?_
  refine pS (sn_new (us := #[.int .i64 0, .int .i64 0, .slice none 0 0, .slice none 0 0]) (t := 31) (by kernel_rfl) ?_)
  intro O365 X366 hzO365 hyO365 hb hbx; have ⟨bO365_0, bO365_1, bO365_2, bO365_3⟩ := bx4 hbx; clear hbx
  replace hE := hE.trans hb; replace hX343 := hX343.trans hb; replace hV361 := hV361.ext hb; replace hP356n := hP356n.ext hb; have hs367 := hb.size; clear hb; have lt368 := bO365_0.lt
  refine pP (sn_setK4 (O := O365) (j := 0) (v0 := .int .i64 1) (v1 := .int .i64 2) (v2 := .slice (some ⟨b359, o360, none⟩) 24 k350) (v3 := .slice a351 n352 c353) (ex_store (p := .pointer (some ⟨O365, 0, none⟩)) (v := .agg #[.int .i64 1, .int .i64 2, .slice (some ⟨b359, o360, none⟩) 24 k350, .slice a351 n352 c353]) rfl (by kernel_rfl) (by kernel_rfl) (st31 bO365_0.1 bO365_0.2 bO365_1.1 bO365_1.2 bO365_2.1 bO365_2.2 bO365_3.1 bO365_3.2)) bO365_0 bO365_1 bO365_2 bO365_3 ?_)
  intro X369 ho hv0 hv1 hv2 hv3 hk; replace hE := ho.ext hE (T (T hs5 (T hs9 (T hs12 (T hs18 (T hs22 (T hs25 (T hs31 (T hs35 (T hs38 (T hn332 hs363)))))))))) (Nat.le_of_eq hzO365)); replace hX343 := ho.ext hX343 (T hs363 (Nat.le_of_eq hzO365)); replace hV361 := ho.va (Nat.ne_of_gt (Nat.lt_of_lt_of_le lt364 (Nat.le_of_eq hzO365))) hV361; replace hP356n := hP356n.turn ho (fun h => absurd h.2 (Nat.not_lt_of_le (Nat.le_of_eq hzO365))); have hs370 : X366.heap.size ≤ X369.heap.size := Nat.le_of_eq ho.size.symm; clear ho hk bO365_0 bO365_1 bO365_2 bO365_3; have bO365_0 := hv0; clear hv0; have bO365_1 := hv1; clear hv1; have bO365_2 := hv2; clear hv2; have bO365_3 := hv3; clear hv3; refine pT (.int .i64 0) ?_; refine pl_nil ?_; refine qw_then ?_; refine cw_seq ?_; have hX371 : Ext X369 X369 := Ext.refl _
  have hY372 := hX39.trans hX343
  have hY373 := hX26.trans hY372
  refine cw_join (fun ws' Y => ∃ B377 : Nat, ∃ O384 : Nat, ∃ b401 : Nat, ∃ o402 : Nat, ∃ k392 : Nat, ∃ a393 : Option Addr, ∃ n394 : Nat, ∃ c395 : Nat, ∃ O408 : Nat, ws' = [(3, .pointer (some ⟨O33, 0, none⟩)), (4, .pointer (some ⟨O75, 0, none⟩)), (5, .int .i64 0), (6, .pointer (some ⟨O365, 0, none⟩)), (7, .int .i64 0), (8, .pointer (some ⟨O408, 0, none⟩)), (9, .int .i64 0)] ∧ Ext w Y ∧ Ext X369 Y ∧ PcsAt Y a351 n352 ([p5', p4', p6]) ∧ VA Y B377 0 (rowL 7) ∧ BoxAt Y O384 0 (.int .i64 5) ∧ BoxAt Y O384 1 (.int .i64 200) ∧ BoxAt Y O384 2 (.bool false) ∧ BoxAt Y O384 3 (.slice (some ⟨B14, 0, none⟩) 24 24) ∧ n394 ≤ c395 ∧ Pl a393 ∧ VA Y b401 o402 (rowL 7) ∧ PcsAt Y a393 n394 ([p5]) ∧ BoxAt Y O408 0 (.int .i64 1) ∧ BoxAt Y O408 1 (.int .i64 1) ∧ BoxAt Y O408 2 (.slice (some ⟨b401, o402, none⟩) 24 k392) ∧ BoxAt Y O408 3 (.slice a393 n394 c395) ∧ X369.heap.size ≤ Y.heap.size ∧ X369.heap.size ≤ B377 ∧ X369.heap.size ≤ O384 ∧ X369.heap.size ≤ b401 ∧ X369.heap.size ≤ O408 ∧ Hid (B377 ≠ O384) ∧ Hid (B377 ≠ b401) ∧ Hid (B377 ≠ O408) ∧ Hid (O384 ≠ b401) ∧ Hid (O384 ≠ O408) ∧ Hid (b401 ≠ O408)) (fun hJ => ?_) ?_
  ·
   refine cw_draw [(some 43, [], []), (some 44, [2], []), (some 45, [44], [1]), (some 46, [43, 45], [0, 2, 0]), (some 42, [46], [3]), (some 47, [42], [4]), (some 48, [42], [4]), (some 8, [], []), (none, [8, 47], [7, 5, 3, 0, 1, 2, 3, 4, 5, 7]), (some 9, [48], [6, 8, 0, 1, 2, 3, 4, 5, 6, 7, 8])] (fun w' => w'.cell? ⟨O20, 0, none⟩ = some (.int .i64 5) ∧ w'.cell? ⟨O20, 1, none⟩ = some (.int .i64 200) ∧ w'.cell? ⟨O20, 2, none⟩ = some (.bool false) ∧ w'.cell? ⟨O20, 3, none⟩ = some (.slice (some ⟨B14, 0, none⟩) 24 24)) (by kernel_rfl) (by kernel_rfl) (by kernel_rfl) (by kernel_rfl) ((calm_then calm_body)) (⟨(BoxAt.ext (hY373.trans hX371) bO20_0).1, (BoxAt.ext (hY373.trans hX371) bO20_1).1, (BoxAt.ext (hY373.trans hX371) bO20_2).1, (BoxAt.ext (hY373.trans hX371) bO20_3).1⟩) (fun ops Q X374 hb hL hR hK => ?_)
   replace hE := hE.trans hb; replace hX371 := hX371.trans hb; have hs375 := hb.size; clear hb
   have hS376 := And.intro ((BoxAt.ext (hY373.trans hX371) bO20_0).1) (And.intro ((BoxAt.ext (hY373.trans hX371) bO20_1).1) (And.intro ((BoxAt.ext (hY373.trans hX371) bO20_2).1) ((BoxAt.ext (hY373.trans hX371) bO20_3).1)))
   refine wT 1 (.agg #[.int .i64 5, .int .i64 200, .bool false, .slice (some ⟨B14, 0, none⟩) 24 24]) hR (fun w hS => ex_load rfl (by kernel_rfl) (ld41 (hS.1) (hS.2.1) (hS.2.2.1) (hS.2.2.2))) (hS376) ?_
   refine wd_three 0 2 7 hR rfl rfl rfl (by kernel_rfl) (by kernel_rfl) (by kernel_rfl) (by kernel_rfl) (by kernel_rfl) ?_ ?_ ?_
   ·
    refine sn_call (f := 26) (args := #[.int .i64 7]) (by kernel_rfl) ((row_c 7 _).mono ?_)
    rintro e w380 ⟨B377, rfl, hn378, hr379, hb⟩
    replace hE := hE.trans hb; replace hX371 := hX371.trans hb; have hs381 := hb.size; clear hb
    have hr379v := hr379.va (show Globe.validL (rowL 7) = true by kernel_rfl)
    have lt382 := hr379v.lt
    have hS383 := And.intro ((BoxAt.ext (hY373.trans hX371) bO20_0).1) (And.intro ((BoxAt.ext (hY373.trans hX371) bO20_1).1) (And.intro ((BoxAt.ext (hY373.trans hX371) bO20_2).1) ((BoxAt.ext (hY373.trans hX371) bO20_3).1)))
    refine ⟨_, rfl, hS383, ?_⟩
    refine wd_two 2 7 hR rfl rfl (by kernel_rfl) (by kernel_rfl) (by kernel_rfl) (by kernel_rfl) ?_ ?_
    ·
     refine sn_newS (us := #[.int .i64 5, .int .i64 200, .bool false, .slice (some ⟨B14, 0, none⟩) 24 24]) (t := 41) (k := 1) (c := 1) (by kernel_rfl) ?_
     intro O384 X385 hzO384 hyO384 hb hbx; have ⟨bO384_0, bO384_1, bO384_2, bO384_3⟩ := bx4 hbx; clear hbx
     replace hE := hE.trans hb; replace hX371 := hX371.trans hb; replace hr379v := hr379v.ext hb; have hs386 := hb.size; clear hb; have lt387 := bO384_0.lt
     have hS388 := And.intro ((BoxAt.ext (hY373.trans hX371) bO20_0).1) (And.intro ((BoxAt.ext (hY373.trans hX371) bO20_1).1) (And.intro ((BoxAt.ext (hY373.trans hX371) bO20_2).1) ((BoxAt.ext (hY373.trans hX371) bO20_3).1)))
     refine ⟨hS388, ?_⟩
     refine wd_two 3 7 hR rfl rfl (by kernel_rfl) (by kernel_rfl) (by kernel_rfl) (by kernel_rfl) ?_ ?_
     ·
      have hPB389 : PcsAt X385 (some ⟨O384, 0, none⟩) 1 [p5] := PcsB.at (PcsB.cons (p := p5) (o := 0) (o' := 4) rfl (bO384_0.1) (bO384_1.1) (bO384_2.1) (bO384_3.1) (AA.ext (aa_q (hr16v.aa)) (hY373.trans hX371)) PcsB.nil) rfl (by omega)
      refine sn_call (f := 11) (args := #[.int .i64 1, .agg #[.slice (some ⟨B377, 0, none⟩) 24 24], .slice (some ⟨O384, 0, none⟩) 1 1]) (by kernel_rfl) (((Build_c (id := 1) _ _ (by omega) (aa_q (hr379v.aa)) (Ext.refl _) hPB389 (Ext.refl _) (hT.ext hE)).mono fun _ _ h => h.eq (by kernel_rfl) rfl (show _ = [p5] by kernel_rfl)).mono ?_)
      rintro e w404 ⟨a390, n391, k392, a393, n394, c395, rfl, hA396, hfr397, hP398, hnc399, hpl400, hb⟩
      replace hE := hE.trans hb; replace hX371 := hX371.trans hb; replace hr379v := hr379v.ext hb; replace bO384_0 := BoxAt.ext hb bO384_0; replace bO384_1 := BoxAt.ext hb bO384_1; replace bO384_2 := BoxAt.ext hb bO384_2; replace bO384_3 := BoxAt.ext hb bO384_3; have hs405 := hb.size; clear hb
      obtain ⟨b401, o402, rfl, rfl, hV403⟩ := va_of hA396 (by kernel_rfl)
      have hfr397l := hfr397 _ rfl
      have lt406 := hV403.lt
      have hP398n : PcsS (fun k => X385.heap.size ≤ k ∧ k < w404.heap.size) w404 a393 n394 ([p5]) := PcsS.both hP398
      have hS407 := And.intro ((BoxAt.ext (hY373.trans hX371) bO20_0).1) (And.intro ((BoxAt.ext (hY373.trans hX371) bO20_1).1) (And.intro ((BoxAt.ext (hY373.trans hX371) bO20_2).1) ((BoxAt.ext (hY373.trans hX371) bO20_3).1)))
      refine ⟨_, rfl, hS407, ?_⟩
      refine wT 4 (.tuple #[.agg #[.int .i64 1, .int .i64 1, .slice (some ⟨b401, o402, none⟩) 24 k392, .slice a393 n394 c395], .int .i64 0]) hR (fun w _ => by kernel_rfl) (hS407) ?_
      refine wT 5 (.agg #[.int .i64 1, .int .i64 1, .slice (some ⟨b401, o402, none⟩) 24 k392, .slice a393 n394 c395]) hR (fun w _ => by kernel_rfl) (hS407) ?_
      refine wT 6 (.int .i64 0) hR (fun w _ => by kernel_rfl) (hS407) ?_
      refine wS 7 hR (sn_new (us := #[.int .i64 0, .int .i64 0, .slice none 0 0, .slice none 0 0]) (t := 31) (by kernel_rfl) ?_)
      intro O408 X409 hzO408 hyO408 hb hbx; have ⟨bO408_0, bO408_1, bO408_2, bO408_3⟩ := bx4 hbx; clear hbx
      replace hE := hE.trans hb; replace hX371 := hX371.trans hb; replace hr379v := hr379v.ext hb; replace bO384_0 := BoxAt.ext hb bO384_0; replace bO384_1 := BoxAt.ext hb bO384_1; replace bO384_2 := BoxAt.ext hb bO384_2; replace bO384_3 := BoxAt.ext hb bO384_3; replace hV403 := hV403.ext hb; replace hP398n := hP398n.ext hb; have hs410 := hb.size; clear hb; have lt411 := bO408_0.lt
      have hS412 := And.intro ((BoxAt.ext (hY373.trans hX371) bO20_0).1) (And.intro ((BoxAt.ext (hY373.trans hX371) bO20_1).1) (And.intro ((BoxAt.ext (hY373.trans hX371) bO20_2).1) ((BoxAt.ext (hY373.trans hX371) bO20_3).1)))
      refine ⟨hS412, ?_⟩
      refine wS 8 hR (sn_setK4 (O := O408) (j := 0) (v0 := .int .i64 1) (v1 := .int .i64 1) (v2 := .slice (some ⟨b401, o402, none⟩) 24 k392) (v3 := .slice a393 n394 c395) (ex_store (p := .pointer (some ⟨O408, 0, none⟩)) (v := .agg #[.int .i64 1, .int .i64 1, .slice (some ⟨b401, o402, none⟩) 24 k392, .slice a393 n394 c395]) rfl (by kernel_rfl) (by kernel_rfl) (st31 bO408_0.1 bO408_0.2 bO408_1.1 bO408_1.2 bO408_2.1 bO408_2.2 bO408_3.1 bO408_3.2)) bO408_0 bO408_1 bO408_2 bO408_3 ?_)
      intro X413 ho hv0 hv1 hv2 hv3 hk; replace hE := ho.ext hE (T (T hs5 (T hs9 (T hs12 (T hs18 (T hs22 (T hs25 (T hs31 (T hs35 (T hs38 (T hn332 (T hs363 (T hs367 (T hs370 (T hs375 (T hs381 (T hs386 hs405)))))))))))))))) (Nat.le_of_eq hzO408)); replace hX371 := ho.ext hX371 (T (T hs375 (T hs381 (T hs386 hs405))) (Nat.le_of_eq hzO408)); replace hr379v := ho.va (Nat.ne_of_gt (Nat.lt_of_lt_of_le lt382 (T (T hs386 hs405) (Nat.le_of_eq hzO408)))) hr379v
      have q9 := fun (j : Nat) (v : Value) (h : BoxAt _ O384 j v) => ho.box (Nat.ne_of_gt (Nat.lt_of_lt_of_le lt387 (T hs405 (Nat.le_of_eq hzO408)))) h
      replace bO384_0 := q9 _ _ bO384_0; replace bO384_1 := q9 _ _ bO384_1; replace bO384_2 := q9 _ _ bO384_2; replace bO384_3 := q9 _ _ bO384_3; clear q9; replace hV403 := ho.va (Nat.ne_of_gt (Nat.lt_of_lt_of_le lt406 (Nat.le_of_eq hzO408))) hV403; replace hP398n := hP398n.turn ho (fun h => absurd h.2 (Nat.not_lt_of_le (Nat.le_of_eq hzO408))); have hs414 : X409.heap.size ≤ X413.heap.size := Nat.le_of_eq ho.size.symm; clear ho hk bO408_0 bO408_1 bO408_2 bO408_3; have bO408_0 := hv0; clear hv0; have bO408_1 := hv1; clear hv1; have bO408_2 := hv2; clear hv2; have bO408_3 := hv3; clear hv3
      have hS415 := And.intro ((BoxAt.ext (hY373.trans hX371) bO20_0).1) (And.intro ((BoxAt.ext (hY373.trans hX371) bO20_1).1) (And.intro ((BoxAt.ext (hY373.trans hX371) bO20_2).1) ((BoxAt.ext (hY373.trans hX371) bO20_3).1)))
      refine ⟨hS415, ?_⟩
      refine wT 9 (.int .i64 0) hR (fun w _ => by kernel_rfl) (hS415) ?_
      refine wd_end hL hR hK (by kernel_rfl) ?_
      have hPx416 := PcsS.pcs (hP356n.ext hX371)
      have hX417 : Ext X413 X413 := Ext.refl _
      have hPx418 := PcsS.pcs hP398n
      exact qw_leaf hJ [3, 4, 5, 6, 7, 8, 9] (ws' := [(3, .pointer (some ⟨O33, 0, none⟩)), (4, .pointer (some ⟨O75, 0, none⟩)), (5, .int .i64 0), (6, .pointer (some ⟨O365, 0, none⟩)), (7, .int .i64 0), (8, .pointer (some ⟨O408, 0, none⟩)), (9, .int .i64 0)]) (by kernel_rfl) ⟨B377, O384, b401, o402, k392, a393, n394, c395, O408, rfl, hE, (hX371.trans hX417), hPx416, hr379v, bO384_0, bO384_1, bO384_2, bO384_3, hnc399, hpl400, hV403, hPx418, bO408_0, bO408_1, bO408_2, bO408_3, (T hs375 (T hs381 (T hs386 (T hs405 (T hs410 hs414))))), (T hs375 hn378), (T (T hs375 hs381) (Nat.le_of_eq hzO384)), (T (T hs375 (T hs381 hs386)) hfr397l), (T (T hs375 (T hs381 (T hs386 hs405))) (Nat.le_of_eq hzO408)), Lib.hid (Nat.ne_of_lt (Nat.lt_of_lt_of_le lt382 (Nat.le_of_eq hzO384))), Lib.hid (Nat.ne_of_lt (Nat.lt_of_lt_of_le lt382 (T hs386 hfr397l))), Lib.hid (Nat.ne_of_lt (Nat.lt_of_lt_of_le lt382 (T (T hs386 hs405) (Nat.le_of_eq hzO408)))), Lib.hid (Nat.ne_of_lt (Nat.lt_of_lt_of_le lt387 hfr397l)), Lib.hid (Nat.ne_of_lt (Nat.lt_of_lt_of_le lt387 (T hs405 (Nat.le_of_eq hzO408)))), Lib.hid (Nat.ne_of_lt (Nat.lt_of_lt_of_le lt406 (Nat.le_of_eq hzO408)))⟩
     ·
      refine sn_new (us := #[.int .i64 0, .int .i64 0, .slice none 0 0, .slice none 0 0]) (t := 31) (by kernel_rfl) ?_
      intro O419 X420 hzO419 hyO419 hb hbx; have ⟨bO419_0, bO419_1, bO419_2, bO419_3⟩ := bx4 hbx; clear hbx
      replace hE := hE.trans hb; replace hX371 := hX371.trans hb; replace hr379v := hr379v.ext hb; replace bO384_0 := BoxAt.ext hb bO384_0; replace bO384_1 := BoxAt.ext hb bO384_1; replace bO384_2 := BoxAt.ext hb bO384_2; replace bO384_3 := BoxAt.ext hb bO384_3; have hs421 := hb.size; clear hb; have lt422 := bO419_0.lt
      have hS423 := And.intro ((BoxAt.ext (hY373.trans hX371) bO20_0).1) (And.intro ((BoxAt.ext (hY373.trans hX371) bO20_1).1) (And.intro ((BoxAt.ext (hY373.trans hX371) bO20_2).1) ((BoxAt.ext (hY373.trans hX371) bO20_3).1)))
      refine ⟨hS423, ?_⟩
      have hPB424 : PcsAt X420 (some ⟨O384, 0, none⟩) 1 [p5] := PcsB.at (PcsB.cons (p := p5) (o := 0) (o' := 4) rfl (bO384_0.1) (bO384_1.1) (bO384_2.1) (bO384_3.1) (AA.ext (aa_q (hr16v.aa)) (hY373.trans hX371)) PcsB.nil) rfl (by omega)
      refine wS 3 hR (sn_call (f := 11) (args := #[.int .i64 1, .agg #[.slice (some ⟨B377, 0, none⟩) 24 24], .slice (some ⟨O384, 0, none⟩) 1 1]) (by kernel_rfl) (((Build_c (id := 1) _ _ (by omega) (aa_q (hr379v.aa)) (Ext.refl _) hPB424 (Ext.refl _) (hT.ext hE)).mono fun _ _ h => h.eq (by kernel_rfl) rfl (show _ = [p5] by kernel_rfl)).mono ?_))
      rintro e w439 ⟨a425, n426, k427, a428, n429, c430, rfl, hA431, hfr432, hP433, hnc434, hpl435, hb⟩
      replace hE := hE.trans hb; replace hX371 := hX371.trans hb; replace hr379v := hr379v.ext hb; replace bO384_0 := BoxAt.ext hb bO384_0; replace bO384_1 := BoxAt.ext hb bO384_1; replace bO384_2 := BoxAt.ext hb bO384_2; replace bO384_3 := BoxAt.ext hb bO384_3; replace bO419_0 := BoxAt.ext hb bO419_0; replace bO419_1 := BoxAt.ext hb bO419_1; replace bO419_2 := BoxAt.ext hb bO419_2; replace bO419_3 := BoxAt.ext hb bO419_3; have hs440 := hb.size; clear hb
      obtain ⟨b436, o437, rfl, rfl, hV438⟩ := va_of hA431 (by kernel_rfl)
      have hfr432l := hfr432 _ rfl
      have lt441 := hV438.lt
      have hP433n : PcsS (fun k => X420.heap.size ≤ k ∧ k < w439.heap.size) w439 a428 n429 ([p5]) := PcsS.both hP433
      have hS442 := And.intro ((BoxAt.ext (hY373.trans hX371) bO20_0).1) (And.intro ((BoxAt.ext (hY373.trans hX371) bO20_1).1) (And.intro ((BoxAt.ext (hY373.trans hX371) bO20_2).1) ((BoxAt.ext (hY373.trans hX371) bO20_3).1)))
      refine ⟨_, rfl, hS442, ?_⟩
      refine wT 4 (.tuple #[.agg #[.int .i64 1, .int .i64 1, .slice (some ⟨b436, o437, none⟩) 24 k427, .slice a428 n429 c430], .int .i64 0]) hR (fun w _ => by kernel_rfl) (hS442) ?_
      refine wT 5 (.agg #[.int .i64 1, .int .i64 1, .slice (some ⟨b436, o437, none⟩) 24 k427, .slice a428 n429 c430]) hR (fun w _ => by kernel_rfl) (hS442) ?_
      refine wT 6 (.int .i64 0) hR (fun w _ => by kernel_rfl) (hS442) ?_
      refine wS 8 hR (sn_setK4 (O := O419) (j := 0) (v0 := .int .i64 1) (v1 := .int .i64 1) (v2 := .slice (some ⟨b436, o437, none⟩) 24 k427) (v3 := .slice a428 n429 c430) (ex_store (p := .pointer (some ⟨O419, 0, none⟩)) (v := .agg #[.int .i64 1, .int .i64 1, .slice (some ⟨b436, o437, none⟩) 24 k427, .slice a428 n429 c430]) rfl (by kernel_rfl) (by kernel_rfl) (st31 bO419_0.1 bO419_0.2 bO419_1.1 bO419_1.2 bO419_2.1 bO419_2.2 bO419_3.1 bO419_3.2)) bO419_0 bO419_1 bO419_2 bO419_3 ?_)
      intro X443 ho hv0 hv1 hv2 hv3 hk; replace hE := ho.ext hE (T (T hs5 (T hs9 (T hs12 (T hs18 (T hs22 (T hs25 (T hs31 (T hs35 (T hs38 (T hn332 (T hs363 (T hs367 (T hs370 (T hs375 (T hs381 hs386))))))))))))))) (Nat.le_of_eq hzO419)); replace hX371 := ho.ext hX371 (T (T hs375 (T hs381 hs386)) (Nat.le_of_eq hzO419)); replace hr379v := ho.va (Nat.ne_of_gt (Nat.lt_of_lt_of_le lt382 (T hs386 (Nat.le_of_eq hzO419)))) hr379v
      have q9 := fun (j : Nat) (v : Value) (h : BoxAt _ O384 j v) => ho.box (Nat.ne_of_gt (Nat.lt_of_lt_of_le lt387 (Nat.le_of_eq hzO419))) h
      replace bO384_0 := q9 _ _ bO384_0; replace bO384_1 := q9 _ _ bO384_1; replace bO384_2 := q9 _ _ bO384_2; replace bO384_3 := q9 _ _ bO384_3; clear q9; replace hV438 := ho.va (Nat.ne_of_lt (Nat.lt_of_lt_of_le lt422 hfr432l)) hV438; replace hP433n := hP433n.turn ho (fun h => absurd h.1 (Nat.not_le_of_lt (Nat.lt_of_lt_of_le lt422 (Nat.le_refl _)))); have hs444 : w439.heap.size ≤ X443.heap.size := Nat.le_of_eq ho.size.symm; clear ho hk bO419_0 bO419_1 bO419_2 bO419_3; have bO419_0 := hv0; clear hv0; have bO419_1 := hv1; clear hv1; have bO419_2 := hv2; clear hv2; have bO419_3 := hv3; clear hv3
      have hS445 := And.intro ((BoxAt.ext (hY373.trans hX371) bO20_0).1) (And.intro ((BoxAt.ext (hY373.trans hX371) bO20_1).1) (And.intro ((BoxAt.ext (hY373.trans hX371) bO20_2).1) ((BoxAt.ext (hY373.trans hX371) bO20_3).1)))
      refine ⟨hS445, ?_⟩
      refine wT 9 (.int .i64 0) hR (fun w _ => by kernel_rfl) (hS445) ?_
      refine wd_end hL hR hK (by kernel_rfl) ?_
      have hPx446 := PcsS.pcs (hP356n.ext hX371)
      have hX447 : Ext X443 X443 := Ext.refl _
      have hPx448 := PcsS.pcs hP433n
      exact qw_leaf hJ [3, 4, 5, 6, 7, 8, 9] (ws' := [(3, .pointer (some ⟨O33, 0, none⟩)), (4, .pointer (some ⟨O75, 0, none⟩)), (5, .int .i64 0), (6, .pointer (some ⟨O365, 0, none⟩)), (7, .int .i64 0), (8, .pointer (some ⟨O419, 0, none⟩)), (9, .int .i64 0)]) (by kernel_rfl) ⟨B377, O384, b436, o437, k427, a428, n429, c430, O419, rfl, hE, (hX371.trans hX447), hPx446, hr379v, bO384_0, bO384_1, bO384_2, bO384_3, hnc434, hpl435, hV438, hPx448, bO419_0, bO419_1, bO419_2, bO419_3, (T hs375 (T hs381 (T hs386 (T hs421 (T hs440 hs444))))), (T hs375 hn378), (T (T hs375 hs381) (Nat.le_of_eq hzO384)), (T (T hs375 (T hs381 (T hs386 hs421))) hfr432l), (T (T hs375 (T hs381 hs386)) (Nat.le_of_eq hzO419)), Lib.hid (Nat.ne_of_lt (Nat.lt_of_lt_of_le lt382 (Nat.le_of_eq hzO384))), Lib.hid (Nat.ne_of_lt (Nat.lt_of_lt_of_le lt382 (T (T hs386 hs421) hfr432l))), Lib.hid (Nat.ne_of_lt (Nat.lt_of_lt_of_le lt382 (T hs386 (Nat.le_of_eq hzO419)))), Lib.hid (Nat.ne_of_lt (Nat.lt_of_lt_of_le lt387 (T hs421 hfr432l))), Lib.hid (Nat.ne_of_lt (Nat.lt_of_lt_of_le lt387 (Nat.le_of_eq hzO419))), Lib.hid (Nat.ne_of_gt (Nat.lt_of_lt_of_le lt422 hfr432l))⟩
    ·
     refine sn_new (us := #[.int .i64 0, .int .i64 0, .slice none 0 0, .slice none 0 0]) (t := 31) (by kernel_rfl) ?_
     intro O449 X450 hzO449 hyO449 hb hbx; have ⟨bO449_0, bO449_1, bO449_2, bO449_3⟩ := bx4 hbx; clear hbx
     replace hE := hE.trans hb; replace hX371 := hX371.trans hb; replace hr379v := hr379v.ext hb; have hs451 := hb.size; clear hb; have lt452 := bO449_0.lt
     have hS453 := And.intro ((BoxAt.ext (hY373.trans hX371) bO20_0).1) (And.intro ((BoxAt.ext (hY373.trans hX371) bO20_1).1) (And.intro ((BoxAt.ext (hY373.trans hX371) bO20_2).1) ((BoxAt.ext (hY373.trans hX371) bO20_3).1)))
     refine ⟨hS453, ?_⟩
     refine wS 2 hR (sn_newS (us := #[.int .i64 5, .int .i64 200, .bool false, .slice (some ⟨B14, 0, none⟩) 24 24]) (t := 41) (k := 1) (c := 1) (by kernel_rfl) ?_)
     intro O454 X455 hzO454 hyO454 hb hbx; have ⟨bO454_0, bO454_1, bO454_2, bO454_3⟩ := bx4 hbx; clear hbx
     replace hE := hE.trans hb; replace hX371 := hX371.trans hb; replace hr379v := hr379v.ext hb; replace bO449_0 := BoxAt.ext hb bO449_0; replace bO449_1 := BoxAt.ext hb bO449_1; replace bO449_2 := BoxAt.ext hb bO449_2; replace bO449_3 := BoxAt.ext hb bO449_3; have hs456 := hb.size; clear hb; have lt457 := bO454_0.lt
     have hS458 := And.intro ((BoxAt.ext (hY373.trans hX371) bO20_0).1) (And.intro ((BoxAt.ext (hY373.trans hX371) bO20_1).1) (And.intro ((BoxAt.ext (hY373.trans hX371) bO20_2).1) ((BoxAt.ext (hY373.trans hX371) bO20_3).1)))
     refine ⟨hS458, ?_⟩
     have hPB459 : PcsAt X455 (some ⟨O454, 0, none⟩) 1 [p5] := PcsB.at (PcsB.cons (p := p5) (o := 0) (o' := 4) rfl (bO454_0.1) (bO454_1.1) (bO454_2.1) (bO454_3.1) (AA.ext (aa_q (hr16v.aa)) (hY373.trans hX371)) PcsB.nil) rfl (by omega)
     refine wS 3 hR (sn_call (f := 11) (args := #[.int .i64 1, .agg #[.slice (some ⟨B377, 0, none⟩) 24 24], .slice (some ⟨O454, 0, none⟩) 1 1]) (by kernel_rfl) (((Build_c (id := 1) _ _ (by omega) (aa_q (hr379v.aa)) (Ext.refl _) hPB459 (Ext.refl _) (hT.ext hE)).mono fun _ _ h => h.eq (by kernel_rfl) rfl (show _ = [p5] by kernel_rfl)).mono ?_))
     rintro e w474 ⟨a460, n461, k462, a463, n464, c465, rfl, hA466, hfr467, hP468, hnc469, hpl470, hb⟩
     replace hE := hE.trans hb; replace hX371 := hX371.trans hb; replace hr379v := hr379v.ext hb; replace bO449_0 := BoxAt.ext hb bO449_0; replace bO449_1 := BoxAt.ext hb bO449_1; replace bO449_2 := BoxAt.ext hb bO449_2; replace bO449_3 := BoxAt.ext hb bO449_3; replace bO454_0 := BoxAt.ext hb bO454_0; replace bO454_1 := BoxAt.ext hb bO454_1; replace bO454_2 := BoxAt.ext hb bO454_2; replace bO454_3 := BoxAt.ext hb bO454_3; have hs475 := hb.size; clear hb
     obtain ⟨b471, o472, rfl, rfl, hV473⟩ := va_of hA466 (by kernel_rfl)
     have hfr467l := hfr467 _ rfl
     have lt476 := hV473.lt
     have hP468n : PcsS (fun k => X455.heap.size ≤ k ∧ k < w474.heap.size) w474 a463 n464 ([p5]) := PcsS.both hP468
     have hS477 := And.intro ((BoxAt.ext (hY373.trans hX371) bO20_0).1) (And.intro ((BoxAt.ext (hY373.trans hX371) bO20_1).1) (And.intro ((BoxAt.ext (hY373.trans hX371) bO20_2).1) ((BoxAt.ext (hY373.trans hX371) bO20_3).1)))
     refine ⟨_, rfl, hS477, ?_⟩
     refine wT 4 (.tuple #[.agg #[.int .i64 1, .int .i64 1, .slice (some ⟨b471, o472, none⟩) 24 k462, .slice a463 n464 c465], .int .i64 0]) hR (fun w _ => by kernel_rfl) (hS477) ?_
     refine wT 5 (.agg #[.int .i64 1, .int .i64 1, .slice (some ⟨b471, o472, none⟩) 24 k462, .slice a463 n464 c465]) hR (fun w _ => by kernel_rfl) (hS477) ?_
     refine wT 6 (.int .i64 0) hR (fun w _ => by kernel_rfl) (hS477) ?_
     refine wS 8 hR (sn_setK4 (O := O449) (j := 0) (v0 := .int .i64 1) (v1 := .int .i64 1) (v2 := .slice (some ⟨b471, o472, none⟩) 24 k462) (v3 := .slice a463 n464 c465) (ex_store (p := .pointer (some ⟨O449, 0, none⟩)) (v := .agg #[.int .i64 1, .int .i64 1, .slice (some ⟨b471, o472, none⟩) 24 k462, .slice a463 n464 c465]) rfl (by kernel_rfl) (by kernel_rfl) (st31 bO449_0.1 bO449_0.2 bO449_1.1 bO449_1.2 bO449_2.1 bO449_2.2 bO449_3.1 bO449_3.2)) bO449_0 bO449_1 bO449_2 bO449_3 ?_)
     intro X478 ho hv0 hv1 hv2 hv3 hk; replace hE := ho.ext hE (T (T hs5 (T hs9 (T hs12 (T hs18 (T hs22 (T hs25 (T hs31 (T hs35 (T hs38 (T hn332 (T hs363 (T hs367 (T hs370 (T hs375 hs381)))))))))))))) (Nat.le_of_eq hzO449)); replace hX371 := ho.ext hX371 (T (T hs375 hs381) (Nat.le_of_eq hzO449)); replace hr379v := ho.va (Nat.ne_of_gt (Nat.lt_of_lt_of_le lt382 (Nat.le_of_eq hzO449))) hr379v
     have q9 := fun (j : Nat) (v : Value) (h : BoxAt _ O454 j v) => ho.box (Nat.ne_of_lt (Nat.lt_of_lt_of_le lt452 (Nat.le_of_eq hzO454))) h
     replace bO454_0 := q9 _ _ bO454_0; replace bO454_1 := q9 _ _ bO454_1; replace bO454_2 := q9 _ _ bO454_2; replace bO454_3 := q9 _ _ bO454_3; clear q9; replace hV473 := ho.va (Nat.ne_of_lt (Nat.lt_of_lt_of_le lt452 (T hs456 hfr467l))) hV473; replace hP468n := hP468n.turn ho (fun h => absurd h.1 (Nat.not_le_of_lt (Nat.lt_of_lt_of_le lt452 hs456))); have hs479 : w474.heap.size ≤ X478.heap.size := Nat.le_of_eq ho.size.symm; clear ho hk bO449_0 bO449_1 bO449_2 bO449_3; have bO449_0 := hv0; clear hv0; have bO449_1 := hv1; clear hv1; have bO449_2 := hv2; clear hv2; have bO449_3 := hv3; clear hv3
     have hS480 := And.intro ((BoxAt.ext (hY373.trans hX371) bO20_0).1) (And.intro ((BoxAt.ext (hY373.trans hX371) bO20_1).1) (And.intro ((BoxAt.ext (hY373.trans hX371) bO20_2).1) ((BoxAt.ext (hY373.trans hX371) bO20_3).1)))
     refine ⟨hS480, ?_⟩
     refine wT 9 (.int .i64 0) hR (fun w _ => by kernel_rfl) (hS480) ?_
     refine wd_end hL hR hK (by kernel_rfl) ?_
     have hPx481 := PcsS.pcs (hP356n.ext hX371)
     have hX482 : Ext X478 X478 := Ext.refl _
     have hPx483 := PcsS.pcs hP468n
     exact qw_leaf hJ [3, 4, 5, 6, 7, 8, 9] (ws' := [(3, .pointer (some ⟨O33, 0, none⟩)), (4, .pointer (some ⟨O75, 0, none⟩)), (5, .int .i64 0), (6, .pointer (some ⟨O365, 0, none⟩)), (7, .int .i64 0), (8, .pointer (some ⟨O449, 0, none⟩)), (9, .int .i64 0)]) (by kernel_rfl) ⟨B377, O454, b471, o472, k462, a463, n464, c465, O449, rfl, hE, (hX371.trans hX482), hPx481, hr379v, bO454_0, bO454_1, bO454_2, bO454_3, hnc469, hpl470, hV473, hPx483, bO449_0, bO449_1, bO449_2, bO449_3, (T hs375 (T hs381 (T hs451 (T hs456 (T hs475 hs479))))), (T hs375 hn378), (T (T hs375 (T hs381 hs451)) (Nat.le_of_eq hzO454)), (T (T hs375 (T hs381 (T hs451 hs456))) hfr467l), (T (T hs375 hs381) (Nat.le_of_eq hzO449)), Lib.hid (Nat.ne_of_lt (Nat.lt_of_lt_of_le lt382 (T hs451 (Nat.le_of_eq hzO454)))), Lib.hid (Nat.ne_of_lt (Nat.lt_of_lt_of_le lt382 (T (T hs451 hs456) hfr467l))), Lib.hid (Nat.ne_of_lt (Nat.lt_of_lt_of_le lt382 (Nat.le_of_eq hzO449))), Lib.hid (Nat.ne_of_lt (Nat.lt_of_lt_of_le lt457 hfr467l)), Lib.hid (Nat.ne_of_gt (Nat.lt_of_lt_of_le lt452 (Nat.le_of_eq hzO454))), Lib.hid (Nat.ne_of_gt (Nat.lt_of_lt_of_le lt452 (T hs456 hfr467l)))⟩
   ·
    refine sn_newS (us := #[.int .i64 5, .int .i64 200, .bool false, .slice (some ⟨B14, 0, none⟩) 24 24]) (t := 41) (k := 1) (c := 1) (by kernel_rfl) ?_
    intro O484 X485 hzO484 hyO484 hb hbx; have ⟨bO484_0, bO484_1, bO484_2, bO484_3⟩ := bx4 hbx; clear hbx
    replace hE := hE.trans hb; replace hX371 := hX371.trans hb; have hs486 := hb.size; clear hb; have lt487 := bO484_0.lt
    have hS488 := And.intro ((BoxAt.ext (hY373.trans hX371) bO20_0).1) (And.intro ((BoxAt.ext (hY373.trans hX371) bO20_1).1) (And.intro ((BoxAt.ext (hY373.trans hX371) bO20_2).1) ((BoxAt.ext (hY373.trans hX371) bO20_3).1)))
    refine ⟨hS488, ?_⟩
    refine wd_two 0 7 hR rfl rfl (by kernel_rfl) (by kernel_rfl) (by kernel_rfl) (by kernel_rfl) ?_ ?_
    ·
     refine sn_call (f := 26) (args := #[.int .i64 7]) (by kernel_rfl) ((row_c 7 _).mono ?_)
     rintro e w492 ⟨B489, rfl, hn490, hr491, hb⟩
     replace hE := hE.trans hb; replace hX371 := hX371.trans hb; replace bO484_0 := BoxAt.ext hb bO484_0; replace bO484_1 := BoxAt.ext hb bO484_1; replace bO484_2 := BoxAt.ext hb bO484_2; replace bO484_3 := BoxAt.ext hb bO484_3; have hs493 := hb.size; clear hb
     have hr491v := hr491.va (show Globe.validL (rowL 7) = true by kernel_rfl)
     have lt494 := hr491v.lt
     have hS495 := And.intro ((BoxAt.ext (hY373.trans hX371) bO20_0).1) (And.intro ((BoxAt.ext (hY373.trans hX371) bO20_1).1) (And.intro ((BoxAt.ext (hY373.trans hX371) bO20_2).1) ((BoxAt.ext (hY373.trans hX371) bO20_3).1)))
     refine ⟨_, rfl, hS495, ?_⟩
     refine wd_two 3 7 hR rfl rfl (by kernel_rfl) (by kernel_rfl) (by kernel_rfl) (by kernel_rfl) ?_ ?_
     ·
      have hPB496 : PcsAt w492 (some ⟨O484, 0, none⟩) 1 [p5] := PcsB.at (PcsB.cons (p := p5) (o := 0) (o' := 4) rfl (bO484_0.1) (bO484_1.1) (bO484_2.1) (bO484_3.1) (AA.ext (aa_q (hr16v.aa)) (hY373.trans hX371)) PcsB.nil) rfl (by omega)
      refine sn_call (f := 11) (args := #[.int .i64 1, .agg #[.slice (some ⟨B489, 0, none⟩) 24 24], .slice (some ⟨O484, 0, none⟩) 1 1]) (by kernel_rfl) (((Build_c (id := 1) _ _ (by omega) (aa_q (hr491v.aa)) (Ext.refl _) hPB496 (Ext.refl _) (hT.ext hE)).mono fun _ _ h => h.eq (by kernel_rfl) rfl (show _ = [p5] by kernel_rfl)).mono ?_)
      rintro e w511 ⟨a497, n498, k499, a500, n501, c502, rfl, hA503, hfr504, hP505, hnc506, hpl507, hb⟩
      replace hE := hE.trans hb; replace hX371 := hX371.trans hb; replace bO484_0 := BoxAt.ext hb bO484_0; replace bO484_1 := BoxAt.ext hb bO484_1; replace bO484_2 := BoxAt.ext hb bO484_2; replace bO484_3 := BoxAt.ext hb bO484_3; replace hr491v := hr491v.ext hb; have hs512 := hb.size; clear hb
      obtain ⟨b508, o509, rfl, rfl, hV510⟩ := va_of hA503 (by kernel_rfl)
      have hfr504l := hfr504 _ rfl
      have lt513 := hV510.lt
      have hP505n : PcsS (fun k => w492.heap.size ≤ k ∧ k < w511.heap.size) w511 a500 n501 ([p5]) := PcsS.both hP505
      have hS514 := And.intro ((BoxAt.ext (hY373.trans hX371) bO20_0).1) (And.intro ((BoxAt.ext (hY373.trans hX371) bO20_1).1) (And.intro ((BoxAt.ext (hY373.trans hX371) bO20_2).1) ((BoxAt.ext (hY373.trans hX371) bO20_3).1)))
      refine ⟨_, rfl, hS514, ?_⟩
      refine wT 4 (.tuple #[.agg #[.int .i64 1, .int .i64 1, .slice (some ⟨b508, o509, none⟩) 24 k499, .slice a500 n501 c502], .int .i64 0]) hR (fun w _ => by kernel_rfl) (hS514) ?_
      refine wT 5 (.agg #[.int .i64 1, .int .i64 1, .slice (some ⟨b508, o509, none⟩) 24 k499, .slice a500 n501 c502]) hR (fun w _ => by kernel_rfl) (hS514) ?_
      refine wT 6 (.int .i64 0) hR (fun w _ => by kernel_rfl) (hS514) ?_
      refine wS 7 hR (sn_new (us := #[.int .i64 0, .int .i64 0, .slice none 0 0, .slice none 0 0]) (t := 31) (by kernel_rfl) ?_)
      intro O515 X516 hzO515 hyO515 hb hbx; have ⟨bO515_0, bO515_1, bO515_2, bO515_3⟩ := bx4 hbx; clear hbx
      replace hE := hE.trans hb; replace hX371 := hX371.trans hb; replace bO484_0 := BoxAt.ext hb bO484_0; replace bO484_1 := BoxAt.ext hb bO484_1; replace bO484_2 := BoxAt.ext hb bO484_2; replace bO484_3 := BoxAt.ext hb bO484_3; replace hr491v := hr491v.ext hb; replace hV510 := hV510.ext hb; replace hP505n := hP505n.ext hb; have hs517 := hb.size; clear hb; have lt518 := bO515_0.lt
      have hS519 := And.intro ((BoxAt.ext (hY373.trans hX371) bO20_0).1) (And.intro ((BoxAt.ext (hY373.trans hX371) bO20_1).1) (And.intro ((BoxAt.ext (hY373.trans hX371) bO20_2).1) ((BoxAt.ext (hY373.trans hX371) bO20_3).1)))
      refine ⟨hS519, ?_⟩
      refine wS 8 hR (sn_setK4 (O := O515) (j := 0) (v0 := .int .i64 1) (v1 := .int .i64 1) (v2 := .slice (some ⟨b508, o509, none⟩) 24 k499) (v3 := .slice a500 n501 c502) (ex_store (p := .pointer (some ⟨O515, 0, none⟩)) (v := .agg #[.int .i64 1, .int .i64 1, .slice (some ⟨b508, o509, none⟩) 24 k499, .slice a500 n501 c502]) rfl (by kernel_rfl) (by kernel_rfl) (st31 bO515_0.1 bO515_0.2 bO515_1.1 bO515_1.2 bO515_2.1 bO515_2.2 bO515_3.1 bO515_3.2)) bO515_0 bO515_1 bO515_2 bO515_3 ?_)
      intro X520 ho hv0 hv1 hv2 hv3 hk; replace hE := ho.ext hE (T (T hs5 (T hs9 (T hs12 (T hs18 (T hs22 (T hs25 (T hs31 (T hs35 (T hs38 (T hn332 (T hs363 (T hs367 (T hs370 (T hs375 (T hs486 (T hs493 hs512)))))))))))))))) (Nat.le_of_eq hzO515)); replace hX371 := ho.ext hX371 (T (T hs375 (T hs486 (T hs493 hs512))) (Nat.le_of_eq hzO515))
      have q9 := fun (j : Nat) (v : Value) (h : BoxAt _ O484 j v) => ho.box (Nat.ne_of_gt (Nat.lt_of_lt_of_le lt487 (T (T hs493 hs512) (Nat.le_of_eq hzO515)))) h
      replace bO484_0 := q9 _ _ bO484_0; replace bO484_1 := q9 _ _ bO484_1; replace bO484_2 := q9 _ _ bO484_2; replace bO484_3 := q9 _ _ bO484_3; clear q9; replace hr491v := ho.va (Nat.ne_of_gt (Nat.lt_of_lt_of_le lt494 (T hs512 (Nat.le_of_eq hzO515)))) hr491v; replace hV510 := ho.va (Nat.ne_of_gt (Nat.lt_of_lt_of_le lt513 (Nat.le_of_eq hzO515))) hV510; replace hP505n := hP505n.turn ho (fun h => absurd h.2 (Nat.not_lt_of_le (Nat.le_of_eq hzO515))); have hs521 : X516.heap.size ≤ X520.heap.size := Nat.le_of_eq ho.size.symm; clear ho hk bO515_0 bO515_1 bO515_2 bO515_3; have bO515_0 := hv0; clear hv0; have bO515_1 := hv1; clear hv1; have bO515_2 := hv2; clear hv2; have bO515_3 := hv3; clear hv3
      have hS522 := And.intro ((BoxAt.ext (hY373.trans hX371) bO20_0).1) (And.intro ((BoxAt.ext (hY373.trans hX371) bO20_1).1) (And.intro ((BoxAt.ext (hY373.trans hX371) bO20_2).1) ((BoxAt.ext (hY373.trans hX371) bO20_3).1)))
      refine ⟨hS522, ?_⟩
      refine wT 9 (.int .i64 0) hR (fun w _ => by kernel_rfl) (hS522) ?_
      refine wd_end hL hR hK (by kernel_rfl) ?_
      have hPx523 := PcsS.pcs (hP356n.ext hX371)
      have hX524 : Ext X520 X520 := Ext.refl _
      have hPx525 := PcsS.pcs hP505n
      exact qw_leaf hJ [3, 4, 5, 6, 7, 8, 9] (ws' := [(3, .pointer (some ⟨O33, 0, none⟩)), (4, .pointer (some ⟨O75, 0, none⟩)), (5, .int .i64 0), (6, .pointer (some ⟨O365, 0, none⟩)), (7, .int .i64 0), (8, .pointer (some ⟨O515, 0, none⟩)), (9, .int .i64 0)]) (by kernel_rfl) ⟨B489, O484, b508, o509, k499, a500, n501, c502, O515, rfl, hE, (hX371.trans hX524), hPx523, hr491v, bO484_0, bO484_1, bO484_2, bO484_3, hnc506, hpl507, hV510, hPx525, bO515_0, bO515_1, bO515_2, bO515_3, (T hs375 (T hs486 (T hs493 (T hs512 (T hs517 hs521))))), (T (T hs375 hs486) hn490), (T hs375 (Nat.le_of_eq hzO484)), (T (T hs375 (T hs486 hs493)) hfr504l), (T (T hs375 (T hs486 (T hs493 hs512))) (Nat.le_of_eq hzO515)), Lib.hid (Nat.ne_of_gt (Nat.lt_of_lt_of_le lt487 hn490)), Lib.hid (Nat.ne_of_lt (Nat.lt_of_lt_of_le lt494 hfr504l)), Lib.hid (Nat.ne_of_lt (Nat.lt_of_lt_of_le lt494 (T hs512 (Nat.le_of_eq hzO515)))), Lib.hid (Nat.ne_of_lt (Nat.lt_of_lt_of_le lt487 (T hs493 hfr504l))), Lib.hid (Nat.ne_of_lt (Nat.lt_of_lt_of_le lt487 (T (T hs493 hs512) (Nat.le_of_eq hzO515)))), Lib.hid (Nat.ne_of_lt (Nat.lt_of_lt_of_le lt513 (Nat.le_of_eq hzO515)))⟩
     ·
      refine sn_new (us := #[.int .i64 0, .int .i64 0, .slice none 0 0, .slice none 0 0]) (t := 31) (by kernel_rfl) ?_
      intro O526 X527 hzO526 hyO526 hb hbx; have ⟨bO526_0, bO526_1, bO526_2, bO526_3⟩ := bx4 hbx; clear hbx
      replace hE := hE.trans hb; replace hX371 := hX371.trans hb; replace bO484_0 := BoxAt.ext hb bO484_0; replace bO484_1 := BoxAt.ext hb bO484_1; replace bO484_2 := BoxAt.ext hb bO484_2; replace bO484_3 := BoxAt.ext hb bO484_3; replace hr491v := hr491v.ext hb; have hs528 := hb.size; clear hb; have lt529 := bO526_0.lt
      have hS530 := And.intro ((BoxAt.ext (hY373.trans hX371) bO20_0).1) (And.intro ((BoxAt.ext (hY373.trans hX371) bO20_1).1) (And.intro ((BoxAt.ext (hY373.trans hX371) bO20_2).1) ((BoxAt.ext (hY373.trans hX371) bO20_3).1)))
      refine ⟨hS530, ?_⟩
      have hPB531 : PcsAt X527 (some ⟨O484, 0, none⟩) 1 [p5] := PcsB.at (PcsB.cons (p := p5) (o := 0) (o' := 4) rfl (bO484_0.1) (bO484_1.1) (bO484_2.1) (bO484_3.1) (AA.ext (aa_q (hr16v.aa)) (hY373.trans hX371)) PcsB.nil) rfl (by omega)
      refine wS 3 hR (sn_call (f := 11) (args := #[.int .i64 1, .agg #[.slice (some ⟨B489, 0, none⟩) 24 24], .slice (some ⟨O484, 0, none⟩) 1 1]) (by kernel_rfl) (((Build_c (id := 1) _ _ (by omega) (aa_q (hr491v.aa)) (Ext.refl _) hPB531 (Ext.refl _) (hT.ext hE)).mono fun _ _ h => h.eq (by kernel_rfl) rfl (show _ = [p5] by kernel_rfl)).mono ?_))
      rintro e w546 ⟨a532, n533, k534, a535, n536, c537, rfl, hA538, hfr539, hP540, hnc541, hpl542, hb⟩
      replace hE := hE.trans hb; replace hX371 := hX371.trans hb; replace bO484_0 := BoxAt.ext hb bO484_0; replace bO484_1 := BoxAt.ext hb bO484_1; replace bO484_2 := BoxAt.ext hb bO484_2; replace bO484_3 := BoxAt.ext hb bO484_3; replace hr491v := hr491v.ext hb; replace bO526_0 := BoxAt.ext hb bO526_0; replace bO526_1 := BoxAt.ext hb bO526_1; replace bO526_2 := BoxAt.ext hb bO526_2; replace bO526_3 := BoxAt.ext hb bO526_3; have hs547 := hb.size; clear hb
      obtain ⟨b543, o544, rfl, rfl, hV545⟩ := va_of hA538 (by kernel_rfl)
      have hfr539l := hfr539 _ rfl
      have lt548 := hV545.lt
      have hP540n : PcsS (fun k => X527.heap.size ≤ k ∧ k < w546.heap.size) w546 a535 n536 ([p5]) := PcsS.both hP540
      have hS549 := And.intro ((BoxAt.ext (hY373.trans hX371) bO20_0).1) (And.intro ((BoxAt.ext (hY373.trans hX371) bO20_1).1) (And.intro ((BoxAt.ext (hY373.trans hX371) bO20_2).1) ((BoxAt.ext (hY373.trans hX371) bO20_3).1)))
      refine ⟨_, rfl, hS549, ?_⟩
      refine wT 4 (.tuple #[.agg #[.int .i64 1, .int .i64 1, .slice (some ⟨b543, o544, none⟩) 24 k534, .slice a535 n536 c537], .int .i64 0]) hR (fun w _ => by kernel_rfl) (hS549) ?_
      refine wT 5 (.agg #[.int .i64 1, .int .i64 1, .slice (some ⟨b543, o544, none⟩) 24 k534, .slice a535 n536 c537]) hR (fun w _ => by kernel_rfl) (hS549) ?_
      refine wT 6 (.int .i64 0) hR (fun w _ => by kernel_rfl) (hS549) ?_
      refine wS 8 hR (sn_setK4 (O := O526) (j := 0) (v0 := .int .i64 1) (v1 := .int .i64 1) (v2 := .slice (some ⟨b543, o544, none⟩) 24 k534) (v3 := .slice a535 n536 c537) (ex_store (p := .pointer (some ⟨O526, 0, none⟩)) (v := .agg #[.int .i64 1, .int .i64 1, .slice (some ⟨b543, o544, none⟩) 24 k534, .slice a535 n536 c537]) rfl (by kernel_rfl) (by kernel_rfl) (st31 bO526_0.1 bO526_0.2 bO526_1.1 bO526_1.2 bO526_2.1 bO526_2.2 bO526_3.1 bO526_3.2)) bO526_0 bO526_1 bO526_2 bO526_3 ?_)
      intro X550 ho hv0 hv1 hv2 hv3 hk; replace hE := ho.ext hE (T (T hs5 (T hs9 (T hs12 (T hs18 (T hs22 (T hs25 (T hs31 (T hs35 (T hs38 (T hn332 (T hs363 (T hs367 (T hs370 (T hs375 (T hs486 hs493))))))))))))))) (Nat.le_of_eq hzO526)); replace hX371 := ho.ext hX371 (T (T hs375 (T hs486 hs493)) (Nat.le_of_eq hzO526))
      have q9 := fun (j : Nat) (v : Value) (h : BoxAt _ O484 j v) => ho.box (Nat.ne_of_gt (Nat.lt_of_lt_of_le lt487 (T hs493 (Nat.le_of_eq hzO526)))) h
      replace bO484_0 := q9 _ _ bO484_0; replace bO484_1 := q9 _ _ bO484_1; replace bO484_2 := q9 _ _ bO484_2; replace bO484_3 := q9 _ _ bO484_3; clear q9; replace hr491v := ho.va (Nat.ne_of_gt (Nat.lt_of_lt_of_le lt494 (Nat.le_of_eq hzO526))) hr491v; replace hV545 := ho.va (Nat.ne_of_lt (Nat.lt_of_lt_of_le lt529 hfr539l)) hV545; replace hP540n := hP540n.turn ho (fun h => absurd h.1 (Nat.not_le_of_lt (Nat.lt_of_lt_of_le lt529 (Nat.le_refl _)))); have hs551 : w546.heap.size ≤ X550.heap.size := Nat.le_of_eq ho.size.symm; clear ho hk bO526_0 bO526_1 bO526_2 bO526_3; have bO526_0 := hv0; clear hv0; have bO526_1 := hv1; clear hv1; have bO526_2 := hv2; clear hv2; have bO526_3 := hv3; clear hv3
      have hS552 := And.intro ((BoxAt.ext (hY373.trans hX371) bO20_0).1) (And.intro ((BoxAt.ext (hY373.trans hX371) bO20_1).1) (And.intro ((BoxAt.ext (hY373.trans hX371) bO20_2).1) ((BoxAt.ext (hY373.trans hX371) bO20_3).1)))
      refine ⟨hS552, ?_⟩
      refine wT 9 (.int .i64 0) hR (fun w _ => by kernel_rfl) (hS552) ?_
      refine wd_end hL hR hK (by kernel_rfl) ?_
      have hPx553 := PcsS.pcs (hP356n.ext hX371)
      have hX554 : Ext X550 X550 := Ext.refl _
      have hPx555 := PcsS.pcs hP540n
      exact qw_leaf hJ [3, 4, 5, 6, 7, 8, 9] (ws' := [(3, .pointer (some ⟨O33, 0, none⟩)), (4, .pointer (some ⟨O75, 0, none⟩)), (5, .int .i64 0), (6, .pointer (some ⟨O365, 0, none⟩)), (7, .int .i64 0), (8, .pointer (some ⟨O526, 0, none⟩)), (9, .int .i64 0)]) (by kernel_rfl) ⟨B489, O484, b543, o544, k534, a535, n536, c537, O526, rfl, hE, (hX371.trans hX554), hPx553, hr491v, bO484_0, bO484_1, bO484_2, bO484_3, hnc541, hpl542, hV545, hPx555, bO526_0, bO526_1, bO526_2, bO526_3, (T hs375 (T hs486 (T hs493 (T hs528 (T hs547 hs551))))), (T (T hs375 hs486) hn490), (T hs375 (Nat.le_of_eq hzO484)), (T (T hs375 (T hs486 (T hs493 hs528))) hfr539l), (T (T hs375 (T hs486 hs493)) (Nat.le_of_eq hzO526)), Lib.hid (Nat.ne_of_gt (Nat.lt_of_lt_of_le lt487 hn490)), Lib.hid (Nat.ne_of_lt (Nat.lt_of_lt_of_le lt494 (T hs528 hfr539l))), Lib.hid (Nat.ne_of_lt (Nat.lt_of_lt_of_le lt494 (Nat.le_of_eq hzO526))), Lib.hid (Nat.ne_of_lt (Nat.lt_of_lt_of_le lt487 (T (T hs493 hs528) hfr539l))), Lib.hid (Nat.ne_of_lt (Nat.lt_of_lt_of_le lt487 (T hs493 (Nat.le_of_eq hzO526)))), Lib.hid (Nat.ne_of_gt (Nat.lt_of_lt_of_le lt529 hfr539l))⟩
    ·
     refine sn_new (us := #[.int .i64 0, .int .i64 0, .slice none 0 0, .slice none 0 0]) (t := 31) (by kernel_rfl) ?_
     intro O556 X557 hzO556 hyO556 hb hbx; have ⟨bO556_0, bO556_1, bO556_2, bO556_3⟩ := bx4 hbx; clear hbx
     replace hE := hE.trans hb; replace hX371 := hX371.trans hb; replace bO484_0 := BoxAt.ext hb bO484_0; replace bO484_1 := BoxAt.ext hb bO484_1; replace bO484_2 := BoxAt.ext hb bO484_2; replace bO484_3 := BoxAt.ext hb bO484_3; have hs558 := hb.size; clear hb; have lt559 := bO556_0.lt
     have hS560 := And.intro ((BoxAt.ext (hY373.trans hX371) bO20_0).1) (And.intro ((BoxAt.ext (hY373.trans hX371) bO20_1).1) (And.intro ((BoxAt.ext (hY373.trans hX371) bO20_2).1) ((BoxAt.ext (hY373.trans hX371) bO20_3).1)))
     refine ⟨hS560, ?_⟩
     refine wS 0 hR (sn_call (f := 26) (args := #[.int .i64 7]) (by kernel_rfl) ((row_c 7 _).mono ?_))
     rintro e w564 ⟨B561, rfl, hn562, hr563, hb⟩
     replace hE := hE.trans hb; replace hX371 := hX371.trans hb; replace bO484_0 := BoxAt.ext hb bO484_0; replace bO484_1 := BoxAt.ext hb bO484_1; replace bO484_2 := BoxAt.ext hb bO484_2; replace bO484_3 := BoxAt.ext hb bO484_3; replace bO556_0 := BoxAt.ext hb bO556_0; replace bO556_1 := BoxAt.ext hb bO556_1; replace bO556_2 := BoxAt.ext hb bO556_2; replace bO556_3 := BoxAt.ext hb bO556_3; have hs565 := hb.size; clear hb
     have hr563v := hr563.va (show Globe.validL (rowL 7) = true by kernel_rfl)
     have lt566 := hr563v.lt
     have hS567 := And.intro ((BoxAt.ext (hY373.trans hX371) bO20_0).1) (And.intro ((BoxAt.ext (hY373.trans hX371) bO20_1).1) (And.intro ((BoxAt.ext (hY373.trans hX371) bO20_2).1) ((BoxAt.ext (hY373.trans hX371) bO20_3).1)))
     refine ⟨_, rfl, hS567, ?_⟩
     have hPB568 : PcsAt w564 (some ⟨O484, 0, none⟩) 1 [p5] := PcsB.at (PcsB.cons (p := p5) (o := 0) (o' := 4) rfl (bO484_0.1) (bO484_1.1) (bO484_2.1) (bO484_3.1) (AA.ext (aa_q (hr16v.aa)) (hY373.trans hX371)) PcsB.nil) rfl (by omega)
     refine wS 3 hR (sn_call (f := 11) (args := #[.int .i64 1, .agg #[.slice (some ⟨B561, 0, none⟩) 24 24], .slice (some ⟨O484, 0, none⟩) 1 1]) (by kernel_rfl) (((Build_c (id := 1) _ _ (by omega) (aa_q (hr563v.aa)) (Ext.refl _) hPB568 (Ext.refl _) (hT.ext hE)).mono fun _ _ h => h.eq (by kernel_rfl) rfl (show _ = [p5] by kernel_rfl)).mono ?_))
     rintro e w583 ⟨a569, n570, k571, a572, n573, c574, rfl, hA575, hfr576, hP577, hnc578, hpl579, hb⟩
     replace hE := hE.trans hb; replace hX371 := hX371.trans hb; replace bO484_0 := BoxAt.ext hb bO484_0; replace bO484_1 := BoxAt.ext hb bO484_1; replace bO484_2 := BoxAt.ext hb bO484_2; replace bO484_3 := BoxAt.ext hb bO484_3; replace bO556_0 := BoxAt.ext hb bO556_0; replace bO556_1 := BoxAt.ext hb bO556_1; replace bO556_2 := BoxAt.ext hb bO556_2; replace bO556_3 := BoxAt.ext hb bO556_3; replace hr563v := hr563v.ext hb; have hs584 := hb.size; clear hb
     obtain ⟨b580, o581, rfl, rfl, hV582⟩ := va_of hA575 (by kernel_rfl)
     have hfr576l := hfr576 _ rfl
     have lt585 := hV582.lt
     have hP577n : PcsS (fun k => w564.heap.size ≤ k ∧ k < w583.heap.size) w583 a572 n573 ([p5]) := PcsS.both hP577
     have hS586 := And.intro ((BoxAt.ext (hY373.trans hX371) bO20_0).1) (And.intro ((BoxAt.ext (hY373.trans hX371) bO20_1).1) (And.intro ((BoxAt.ext (hY373.trans hX371) bO20_2).1) ((BoxAt.ext (hY373.trans hX371) bO20_3).1)))
     refine ⟨_, rfl, hS586, ?_⟩
     refine wT 4 (.tuple #[.agg #[.int .i64 1, .int .i64 1, .slice (some ⟨b580, o581, none⟩) 24 k571, .slice a572 n573 c574], .int .i64 0]) hR (fun w _ => by kernel_rfl) (hS586) ?_
     refine wT 5 (.agg #[.int .i64 1, .int .i64 1, .slice (some ⟨b580, o581, none⟩) 24 k571, .slice a572 n573 c574]) hR (fun w _ => by kernel_rfl) (hS586) ?_
     refine wT 6 (.int .i64 0) hR (fun w _ => by kernel_rfl) (hS586) ?_
     refine wS 8 hR (sn_setK4 (O := O556) (j := 0) (v0 := .int .i64 1) (v1 := .int .i64 1) (v2 := .slice (some ⟨b580, o581, none⟩) 24 k571) (v3 := .slice a572 n573 c574) (ex_store (p := .pointer (some ⟨O556, 0, none⟩)) (v := .agg #[.int .i64 1, .int .i64 1, .slice (some ⟨b580, o581, none⟩) 24 k571, .slice a572 n573 c574]) rfl (by kernel_rfl) (by kernel_rfl) (st31 bO556_0.1 bO556_0.2 bO556_1.1 bO556_1.2 bO556_2.1 bO556_2.2 bO556_3.1 bO556_3.2)) bO556_0 bO556_1 bO556_2 bO556_3 ?_)
     intro X587 ho hv0 hv1 hv2 hv3 hk; replace hE := ho.ext hE (T (T hs5 (T hs9 (T hs12 (T hs18 (T hs22 (T hs25 (T hs31 (T hs35 (T hs38 (T hn332 (T hs363 (T hs367 (T hs370 (T hs375 hs486)))))))))))))) (Nat.le_of_eq hzO556)); replace hX371 := ho.ext hX371 (T (T hs375 hs486) (Nat.le_of_eq hzO556))
     have q9 := fun (j : Nat) (v : Value) (h : BoxAt _ O484 j v) => ho.box (Nat.ne_of_gt (Nat.lt_of_lt_of_le lt487 (Nat.le_of_eq hzO556))) h
     replace bO484_0 := q9 _ _ bO484_0; replace bO484_1 := q9 _ _ bO484_1; replace bO484_2 := q9 _ _ bO484_2; replace bO484_3 := q9 _ _ bO484_3; clear q9; replace hr563v := ho.va (Nat.ne_of_lt (Nat.lt_of_lt_of_le lt559 hn562)) hr563v; replace hV582 := ho.va (Nat.ne_of_lt (Nat.lt_of_lt_of_le lt559 (T hs565 hfr576l))) hV582; replace hP577n := hP577n.turn ho (fun h => absurd h.1 (Nat.not_le_of_lt (Nat.lt_of_lt_of_le lt559 hs565))); have hs588 : w583.heap.size ≤ X587.heap.size := Nat.le_of_eq ho.size.symm; clear ho hk bO556_0 bO556_1 bO556_2 bO556_3; have bO556_0 := hv0; clear hv0; have bO556_1 := hv1; clear hv1; have bO556_2 := hv2; clear hv2; have bO556_3 := hv3; clear hv3
     have hS589 := And.intro ((BoxAt.ext (hY373.trans hX371) bO20_0).1) (And.intro ((BoxAt.ext (hY373.trans hX371) bO20_1).1) (And.intro ((BoxAt.ext (hY373.trans hX371) bO20_2).1) ((BoxAt.ext (hY373.trans hX371) bO20_3).1)))
     refine ⟨hS589, ?_⟩
     refine wT 9 (.int .i64 0) hR (fun w _ => by kernel_rfl) (hS589) ?_
     refine wd_end hL hR hK (by kernel_rfl) ?_
     have hPx590 := PcsS.pcs (hP356n.ext hX371)
     have hX591 : Ext X587 X587 := Ext.refl _
     have hPx592 := PcsS.pcs hP577n
     exact qw_leaf hJ [3, 4, 5, 6, 7, 8, 9] (ws' := [(3, .pointer (some ⟨O33, 0, none⟩)), (4, .pointer (some ⟨O75, 0, none⟩)), (5, .int .i64 0), (6, .pointer (some ⟨O365, 0, none⟩)), (7, .int .i64 0), (8, .pointer (some ⟨O556, 0, none⟩)), (9, .int .i64 0)]) (by kernel_rfl) ⟨B561, O484, b580, o581, k571, a572, n573, c574, O556, rfl, hE, (hX371.trans hX591), hPx590, hr563v, bO484_0, bO484_1, bO484_2, bO484_3, hnc578, hpl579, hV582, hPx592, bO556_0, bO556_1, bO556_2, bO556_3, (T hs375 (T hs486 (T hs558 (T hs565 (T hs584 hs588))))), (T (T hs375 (T hs486 hs558)) hn562), (T hs375 (Nat.le_of_eq hzO484)), (T (T hs375 (T hs486 (T hs558 hs565))) hfr576l), (T (T hs375 hs486) (Nat.le_of_eq hzO556)), Lib.hid (Nat.ne_of_gt (Nat.lt_of_lt_of_le lt487 (T hs558 hn562))), Lib.hid (Nat.ne_of_lt (Nat.lt_of_lt_of_le lt566 hfr576l)), Lib.hid (Nat.ne_of_gt (Nat.lt_of_lt_of_le lt559 hn562)), Lib.hid (Nat.ne_of_lt (Nat.lt_of_lt_of_le lt487 (T (T hs558 hs565) hfr576l))), Lib.hid (Nat.ne_of_lt (Nat.lt_of_lt_of_le lt487 (Nat.le_of_eq hzO556))), Lib.hid (Nat.ne_of_gt (Nat.lt_of_lt_of_le lt559 (T hs565 hfr576l)))⟩
   ·
    refine sn_new (us := #[.int .i64 0, .int .i64 0, .slice none 0 0, .slice none 0 0]) (t := 31) (by kernel_rfl) ?_
    intro O593 X594 hzO593 hyO593 hb hbx; have ⟨bO593_0, bO593_1, bO593_2, bO593_3⟩ := bx4 hbx; clear hbx
    replace hE := hE.trans hb; replace hX371 := hX371.trans hb; have hs595 := hb.size; clear hb; have lt596 := bO593_0.lt
    have hS597 := And.intro ((BoxAt.ext (hY373.trans hX371) bO20_0).1) (And.intro ((BoxAt.ext (hY373.trans hX371) bO20_1).1) (And.intro ((BoxAt.ext (hY373.trans hX371) bO20_2).1) ((BoxAt.ext (hY373.trans hX371) bO20_3).1)))
    refine ⟨hS597, ?_⟩
    refine wd_two 0 2 hR rfl rfl (by kernel_rfl) (by kernel_rfl) (by kernel_rfl) (by kernel_rfl) ?_ ?_
    ·
     refine sn_call (f := 26) (args := #[.int .i64 7]) (by kernel_rfl) ((row_c 7 _).mono ?_)
     rintro e w601 ⟨B598, rfl, hn599, hr600, hb⟩
     replace hE := hE.trans hb; replace hX371 := hX371.trans hb; replace bO593_0 := BoxAt.ext hb bO593_0; replace bO593_1 := BoxAt.ext hb bO593_1; replace bO593_2 := BoxAt.ext hb bO593_2; replace bO593_3 := BoxAt.ext hb bO593_3; have hs602 := hb.size; clear hb
     have hr600v := hr600.va (show Globe.validL (rowL 7) = true by kernel_rfl)
     have lt603 := hr600v.lt
     have hS604 := And.intro ((BoxAt.ext (hY373.trans hX371) bO20_0).1) (And.intro ((BoxAt.ext (hY373.trans hX371) bO20_1).1) (And.intro ((BoxAt.ext (hY373.trans hX371) bO20_2).1) ((BoxAt.ext (hY373.trans hX371) bO20_3).1)))
     refine ⟨_, rfl, hS604, ?_⟩
     refine wS 2 hR (sn_newS (us := #[.int .i64 5, .int .i64 200, .bool false, .slice (some ⟨B14, 0, none⟩) 24 24]) (t := 41) (k := 1) (c := 1) (by kernel_rfl) ?_)
     intro O605 X606 hzO605 hyO605 hb hbx; have ⟨bO605_0, bO605_1, bO605_2, bO605_3⟩ := bx4 hbx; clear hbx
     replace hE := hE.trans hb; replace hX371 := hX371.trans hb; replace bO593_0 := BoxAt.ext hb bO593_0; replace bO593_1 := BoxAt.ext hb bO593_1; replace bO593_2 := BoxAt.ext hb bO593_2; replace bO593_3 := BoxAt.ext hb bO593_3; replace hr600v := hr600v.ext hb; have hs607 := hb.size; clear hb; have lt608 := bO605_0.lt
     have hS609 := And.intro ((BoxAt.ext (hY373.trans hX371) bO20_0).1) (And.intro ((BoxAt.ext (hY373.trans hX371) bO20_1).1) (And.intro ((BoxAt.ext (hY373.trans hX371) bO20_2).1) ((BoxAt.ext (hY373.trans hX371) bO20_3).1)))
     refine ⟨hS609, ?_⟩
     have hPB610 : PcsAt X606 (some ⟨O605, 0, none⟩) 1 [p5] := PcsB.at (PcsB.cons (p := p5) (o := 0) (o' := 4) rfl (bO605_0.1) (bO605_1.1) (bO605_2.1) (bO605_3.1) (AA.ext (aa_q (hr16v.aa)) (hY373.trans hX371)) PcsB.nil) rfl (by omega)
     refine wS 3 hR (sn_call (f := 11) (args := #[.int .i64 1, .agg #[.slice (some ⟨B598, 0, none⟩) 24 24], .slice (some ⟨O605, 0, none⟩) 1 1]) (by kernel_rfl) (((Build_c (id := 1) _ _ (by omega) (aa_q (hr600v.aa)) (Ext.refl _) hPB610 (Ext.refl _) (hT.ext hE)).mono fun _ _ h => h.eq (by kernel_rfl) rfl (show _ = [p5] by kernel_rfl)).mono ?_))
     rintro e w625 ⟨a611, n612, k613, a614, n615, c616, rfl, hA617, hfr618, hP619, hnc620, hpl621, hb⟩
     replace hE := hE.trans hb; replace hX371 := hX371.trans hb; replace bO593_0 := BoxAt.ext hb bO593_0; replace bO593_1 := BoxAt.ext hb bO593_1; replace bO593_2 := BoxAt.ext hb bO593_2; replace bO593_3 := BoxAt.ext hb bO593_3; replace hr600v := hr600v.ext hb; replace bO605_0 := BoxAt.ext hb bO605_0; replace bO605_1 := BoxAt.ext hb bO605_1; replace bO605_2 := BoxAt.ext hb bO605_2; replace bO605_3 := BoxAt.ext hb bO605_3; have hs626 := hb.size; clear hb
     obtain ⟨b622, o623, rfl, rfl, hV624⟩ := va_of hA617 (by kernel_rfl)
     have hfr618l := hfr618 _ rfl
     have lt627 := hV624.lt
     have hP619n : PcsS (fun k => X606.heap.size ≤ k ∧ k < w625.heap.size) w625 a614 n615 ([p5]) := PcsS.both hP619
     have hS628 := And.intro ((BoxAt.ext (hY373.trans hX371) bO20_0).1) (And.intro ((BoxAt.ext (hY373.trans hX371) bO20_1).1) (And.intro ((BoxAt.ext (hY373.trans hX371) bO20_2).1) ((BoxAt.ext (hY373.trans hX371) bO20_3).1)))
     refine ⟨_, rfl, hS628, ?_⟩
     refine wT 4 (.tuple #[.agg #[.int .i64 1, .int .i64 1, .slice (some ⟨b622, o623, none⟩) 24 k613, .slice a614 n615 c616], .int .i64 0]) hR (fun w _ => by kernel_rfl) (hS628) ?_
     refine wT 5 (.agg #[.int .i64 1, .int .i64 1, .slice (some ⟨b622, o623, none⟩) 24 k613, .slice a614 n615 c616]) hR (fun w _ => by kernel_rfl) (hS628) ?_
     refine wT 6 (.int .i64 0) hR (fun w _ => by kernel_rfl) (hS628) ?_
     refine wS 8 hR (sn_setK4 (O := O593) (j := 0) (v0 := .int .i64 1) (v1 := .int .i64 1) (v2 := .slice (some ⟨b622, o623, none⟩) 24 k613) (v3 := .slice a614 n615 c616) (ex_store (p := .pointer (some ⟨O593, 0, none⟩)) (v := .agg #[.int .i64 1, .int .i64 1, .slice (some ⟨b622, o623, none⟩) 24 k613, .slice a614 n615 c616]) rfl (by kernel_rfl) (by kernel_rfl) (st31 bO593_0.1 bO593_0.2 bO593_1.1 bO593_1.2 bO593_2.1 bO593_2.2 bO593_3.1 bO593_3.2)) bO593_0 bO593_1 bO593_2 bO593_3 ?_)
     intro X629 ho hv0 hv1 hv2 hv3 hk; replace hE := ho.ext hE (T (T hs5 (T hs9 (T hs12 (T hs18 (T hs22 (T hs25 (T hs31 (T hs35 (T hs38 (T hn332 (T hs363 (T hs367 (T hs370 hs375))))))))))))) (Nat.le_of_eq hzO593)); replace hX371 := ho.ext hX371 (T hs375 (Nat.le_of_eq hzO593)); replace hr600v := ho.va (Nat.ne_of_lt (Nat.lt_of_lt_of_le lt596 hn599)) hr600v
     have q9 := fun (j : Nat) (v : Value) (h : BoxAt _ O605 j v) => ho.box (Nat.ne_of_lt (Nat.lt_of_lt_of_le lt596 (T hs602 (Nat.le_of_eq hzO605)))) h
     replace bO605_0 := q9 _ _ bO605_0; replace bO605_1 := q9 _ _ bO605_1; replace bO605_2 := q9 _ _ bO605_2; replace bO605_3 := q9 _ _ bO605_3; clear q9; replace hV624 := ho.va (Nat.ne_of_lt (Nat.lt_of_lt_of_le lt596 (T (T hs602 hs607) hfr618l))) hV624; replace hP619n := hP619n.turn ho (fun h => absurd h.1 (Nat.not_le_of_lt (Nat.lt_of_lt_of_le lt596 (T hs602 hs607)))); have hs630 : w625.heap.size ≤ X629.heap.size := Nat.le_of_eq ho.size.symm; clear ho hk bO593_0 bO593_1 bO593_2 bO593_3; have bO593_0 := hv0; clear hv0; have bO593_1 := hv1; clear hv1; have bO593_2 := hv2; clear hv2; have bO593_3 := hv3; clear hv3
     have hS631 := And.intro ((BoxAt.ext (hY373.trans hX371) bO20_0).1) (And.intro ((BoxAt.ext (hY373.trans hX371) bO20_1).1) (And.intro ((BoxAt.ext (hY373.trans hX371) bO20_2).1) ((BoxAt.ext (hY373.trans hX371) bO20_3).1)))
     refine ⟨hS631, ?_⟩
     refine wT 9 (.int .i64 0) hR (fun w _ => by kernel_rfl) (hS631) ?_
     refine wd_end hL hR hK (by kernel_rfl) ?_
     have hPx632 := PcsS.pcs (hP356n.ext hX371)
     have hX633 : Ext X629 X629 := Ext.refl _
     have hPx634 := PcsS.pcs hP619n
     exact qw_leaf hJ [3, 4, 5, 6, 7, 8, 9] (ws' := [(3, .pointer (some ⟨O33, 0, none⟩)), (4, .pointer (some ⟨O75, 0, none⟩)), (5, .int .i64 0), (6, .pointer (some ⟨O365, 0, none⟩)), (7, .int .i64 0), (8, .pointer (some ⟨O593, 0, none⟩)), (9, .int .i64 0)]) (by kernel_rfl) ⟨B598, O605, b622, o623, k613, a614, n615, c616, O593, rfl, hE, (hX371.trans hX633), hPx632, hr600v, bO605_0, bO605_1, bO605_2, bO605_3, hnc620, hpl621, hV624, hPx634, bO593_0, bO593_1, bO593_2, bO593_3, (T hs375 (T hs595 (T hs602 (T hs607 (T hs626 hs630))))), (T (T hs375 hs595) hn599), (T (T hs375 (T hs595 hs602)) (Nat.le_of_eq hzO605)), (T (T hs375 (T hs595 (T hs602 hs607))) hfr618l), (T hs375 (Nat.le_of_eq hzO593)), Lib.hid (Nat.ne_of_lt (Nat.lt_of_lt_of_le lt603 (Nat.le_of_eq hzO605))), Lib.hid (Nat.ne_of_lt (Nat.lt_of_lt_of_le lt603 (T hs607 hfr618l))), Lib.hid (Nat.ne_of_gt (Nat.lt_of_lt_of_le lt596 hn599)), Lib.hid (Nat.ne_of_lt (Nat.lt_of_lt_of_le lt608 hfr618l)), Lib.hid (Nat.ne_of_gt (Nat.lt_of_lt_of_le lt596 (T hs602 (Nat.le_of_eq hzO605)))), Lib.hid (Nat.ne_of_gt (Nat.lt_of_lt_of_le lt596 (T (T hs602 hs607) hfr618l)))⟩
    ·
     refine sn_newS (us := #[.int .i64 5, .int .i64 200, .bool false, .slice (some ⟨B14, 0, none⟩) 24 24]) (t := 41) (k := 1) (c := 1) (by kernel_rfl) ?_
     intro O635 X636 hzO635 hyO635 hb hbx; have ⟨bO635_0, bO635_1, bO635_2, bO635_3⟩ := bx4 hbx; clear hbx
     replace hE := hE.trans hb; replace hX371 := hX371.trans hb; replace bO593_0 := BoxAt.ext hb bO593_0; replace bO593_1 := BoxAt.ext hb bO593_1; replace bO593_2 := BoxAt.ext hb bO593_2; replace bO593_3 := BoxAt.ext hb bO593_3; have hs637 := hb.size; clear hb; have lt638 := bO635_0.lt
     have hS639 := And.intro ((BoxAt.ext (hY373.trans hX371) bO20_0).1) (And.intro ((BoxAt.ext (hY373.trans hX371) bO20_1).1) (And.intro ((BoxAt.ext (hY373.trans hX371) bO20_2).1) ((BoxAt.ext (hY373.trans hX371) bO20_3).1)))
     refine ⟨hS639, ?_⟩
     refine wS 0 hR (sn_call (f := 26) (args := #[.int .i64 7]) (by kernel_rfl) ((row_c 7 _).mono ?_))
     rintro e w643 ⟨B640, rfl, hn641, hr642, hb⟩
     replace hE := hE.trans hb; replace hX371 := hX371.trans hb; replace bO593_0 := BoxAt.ext hb bO593_0; replace bO593_1 := BoxAt.ext hb bO593_1; replace bO593_2 := BoxAt.ext hb bO593_2; replace bO593_3 := BoxAt.ext hb bO593_3; replace bO635_0 := BoxAt.ext hb bO635_0; replace bO635_1 := BoxAt.ext hb bO635_1; replace bO635_2 := BoxAt.ext hb bO635_2; replace bO635_3 := BoxAt.ext hb bO635_3; have hs644 := hb.size; clear hb
     have hr642v := hr642.va (show Globe.validL (rowL 7) = true by kernel_rfl)
     have lt645 := hr642v.lt
     have hS646 := And.intro ((BoxAt.ext (hY373.trans hX371) bO20_0).1) (And.intro ((BoxAt.ext (hY373.trans hX371) bO20_1).1) (And.intro ((BoxAt.ext (hY373.trans hX371) bO20_2).1) ((BoxAt.ext (hY373.trans hX371) bO20_3).1)))
     refine ⟨_, rfl, hS646, ?_⟩
     have hPB647 : PcsAt w643 (some ⟨O635, 0, none⟩) 1 [p5] := PcsB.at (PcsB.cons (p := p5) (o := 0) (o' := 4) rfl (bO635_0.1) (bO635_1.1) (bO635_2.1) (bO635_3.1) (AA.ext (aa_q (hr16v.aa)) (hY373.trans hX371)) PcsB.nil) rfl (by omega)
     refine wS 3 hR (sn_call (f := 11) (args := #[.int .i64 1, .agg #[.slice (some ⟨B640, 0, none⟩) 24 24], .slice (some ⟨O635, 0, none⟩) 1 1]) (by kernel_rfl) (((Build_c (id := 1) _ _ (by omega) (aa_q (hr642v.aa)) (Ext.refl _) hPB647 (Ext.refl _) (hT.ext hE)).mono fun _ _ h => h.eq (by kernel_rfl) rfl (show _ = [p5] by kernel_rfl)).mono ?_))
     rintro e w662 ⟨a648, n649, k650, a651, n652, c653, rfl, hA654, hfr655, hP656, hnc657, hpl658, hb⟩
     replace hE := hE.trans hb; replace hX371 := hX371.trans hb; replace bO593_0 := BoxAt.ext hb bO593_0; replace bO593_1 := BoxAt.ext hb bO593_1; replace bO593_2 := BoxAt.ext hb bO593_2; replace bO593_3 := BoxAt.ext hb bO593_3; replace bO635_0 := BoxAt.ext hb bO635_0; replace bO635_1 := BoxAt.ext hb bO635_1; replace bO635_2 := BoxAt.ext hb bO635_2; replace bO635_3 := BoxAt.ext hb bO635_3; replace hr642v := hr642v.ext hb; have hs663 := hb.size; clear hb
     obtain ⟨b659, o660, rfl, rfl, hV661⟩ := va_of hA654 (by kernel_rfl)
     have hfr655l := hfr655 _ rfl
     have lt664 := hV661.lt
     have hP656n : PcsS (fun k => w643.heap.size ≤ k ∧ k < w662.heap.size) w662 a651 n652 ([p5]) := PcsS.both hP656
     have hS665 := And.intro ((BoxAt.ext (hY373.trans hX371) bO20_0).1) (And.intro ((BoxAt.ext (hY373.trans hX371) bO20_1).1) (And.intro ((BoxAt.ext (hY373.trans hX371) bO20_2).1) ((BoxAt.ext (hY373.trans hX371) bO20_3).1)))
     refine ⟨_, rfl, hS665, ?_⟩
     refine wT 4 (.tuple #[.agg #[.int .i64 1, .int .i64 1, .slice (some ⟨b659, o660, none⟩) 24 k650, .slice a651 n652 c653], .int .i64 0]) hR (fun w _ => by kernel_rfl) (hS665) ?_
     refine wT 5 (.agg #[.int .i64 1, .int .i64 1, .slice (some ⟨b659, o660, none⟩) 24 k650, .slice a651 n652 c653]) hR (fun w _ => by kernel_rfl) (hS665) ?_
     refine wT 6 (.int .i64 0) hR (fun w _ => by kernel_rfl) (hS665) ?_
     refine wS 8 hR (sn_setK4 (O := O593) (j := 0) (v0 := .int .i64 1) (v1 := .int .i64 1) (v2 := .slice (some ⟨b659, o660, none⟩) 24 k650) (v3 := .slice a651 n652 c653) (ex_store (p := .pointer (some ⟨O593, 0, none⟩)) (v := .agg #[.int .i64 1, .int .i64 1, .slice (some ⟨b659, o660, none⟩) 24 k650, .slice a651 n652 c653]) rfl (by kernel_rfl) (by kernel_rfl) (st31 bO593_0.1 bO593_0.2 bO593_1.1 bO593_1.2 bO593_2.1 bO593_2.2 bO593_3.1 bO593_3.2)) bO593_0 bO593_1 bO593_2 bO593_3 ?_)
     intro X666 ho hv0 hv1 hv2 hv3 hk; replace hE := ho.ext hE (T (T hs5 (T hs9 (T hs12 (T hs18 (T hs22 (T hs25 (T hs31 (T hs35 (T hs38 (T hn332 (T hs363 (T hs367 (T hs370 hs375))))))))))))) (Nat.le_of_eq hzO593)); replace hX371 := ho.ext hX371 (T hs375 (Nat.le_of_eq hzO593))
     have q9 := fun (j : Nat) (v : Value) (h : BoxAt _ O635 j v) => ho.box (Nat.ne_of_lt (Nat.lt_of_lt_of_le lt596 (Nat.le_of_eq hzO635))) h
     replace bO635_0 := q9 _ _ bO635_0; replace bO635_1 := q9 _ _ bO635_1; replace bO635_2 := q9 _ _ bO635_2; replace bO635_3 := q9 _ _ bO635_3; clear q9; replace hr642v := ho.va (Nat.ne_of_lt (Nat.lt_of_lt_of_le lt596 (T hs637 hn641))) hr642v; replace hV661 := ho.va (Nat.ne_of_lt (Nat.lt_of_lt_of_le lt596 (T (T hs637 hs644) hfr655l))) hV661; replace hP656n := hP656n.turn ho (fun h => absurd h.1 (Nat.not_le_of_lt (Nat.lt_of_lt_of_le lt596 (T hs637 hs644)))); have hs667 : w662.heap.size ≤ X666.heap.size := Nat.le_of_eq ho.size.symm; clear ho hk bO593_0 bO593_1 bO593_2 bO593_3; have bO593_0 := hv0; clear hv0; have bO593_1 := hv1; clear hv1; have bO593_2 := hv2; clear hv2; have bO593_3 := hv3; clear hv3
     have hS668 := And.intro ((BoxAt.ext (hY373.trans hX371) bO20_0).1) (And.intro ((BoxAt.ext (hY373.trans hX371) bO20_1).1) (And.intro ((BoxAt.ext (hY373.trans hX371) bO20_2).1) ((BoxAt.ext (hY373.trans hX371) bO20_3).1)))
     refine ⟨hS668, ?_⟩
     refine wT 9 (.int .i64 0) hR (fun w _ => by kernel_rfl) (hS668) ?_
     refine wd_end hL hR hK (by kernel_rfl) ?_
     have hPx669 := PcsS.pcs (hP356n.ext hX371)
     have hX670 : Ext X666 X666 := Ext.refl _
     have hPx671 := PcsS.pcs hP656n
     exact qw_leaf hJ [3, 4, 5, 6, 7, 8, 9] (ws' := [(3, .pointer (some ⟨O33, 0, none⟩)), (4, .pointer (some ⟨O75, 0, none⟩)), (5, .int .i64 0), (6, .pointer (some ⟨O365, 0, none⟩)), (7, .int .i64 0), (8, .pointer (some ⟨O593, 0, none⟩)), (9, .int .i64 0)]) (by kernel_rfl) ⟨B640, O635, b659, o660, k650, a651, n652, c653, O593, rfl, hE, (hX371.trans hX670), hPx669, hr642v, bO635_0, bO635_1, bO635_2, bO635_3, hnc657, hpl658, hV661, hPx671, bO593_0, bO593_1, bO593_2, bO593_3, (T hs375 (T hs595 (T hs637 (T hs644 (T hs663 hs667))))), (T (T hs375 (T hs595 hs637)) hn641), (T (T hs375 hs595) (Nat.le_of_eq hzO635)), (T (T hs375 (T hs595 (T hs637 hs644))) hfr655l), (T hs375 (Nat.le_of_eq hzO593)), Lib.hid (Nat.ne_of_gt (Nat.lt_of_lt_of_le lt638 hn641)), Lib.hid (Nat.ne_of_lt (Nat.lt_of_lt_of_le lt645 hfr655l)), Lib.hid (Nat.ne_of_gt (Nat.lt_of_lt_of_le lt596 (T hs637 hn641))), Lib.hid (Nat.ne_of_lt (Nat.lt_of_lt_of_le lt638 (T hs644 hfr655l))), Lib.hid (Nat.ne_of_gt (Nat.lt_of_lt_of_le lt596 (Nat.le_of_eq hzO635))), Lib.hid (Nat.ne_of_gt (Nat.lt_of_lt_of_le lt596 (T (T hs637 hs644) hfr655l)))⟩
  ·
   clear hE hX371
   rintro L ws Y672 ⟨B377, O384, b401, o402, k392, a393, n394, c395, O408, rfl, hE, hX371, hPx416, hr379v, bO384_0, bO384_1, bO384_2, bO384_3, hnc399, hpl400, hV403, hPx418, bO408_0, bO408_1, bO408_2, bO408_3, hn673, hn674, hn675, hn676, hn677, hn678, hn679, hn680, hn681, hn682, hn683⟩
   have hX684 : Ext Y672 Y672 := Ext.refl _; have lt685 := hr379v.lt; have lt686 := bO384_0.lt; have lt687 := hV403.lt; have lt688 := bO408_0.lt; refine qw_then ?_; refine cw_seq ?_; refine cw_plain ?_
   refine pU (.agg #[.int .i64 1, .int .i64 1, .slice (some ⟨b401, o402, none⟩) 24 k392, .slice a393 n394 c395]) (ex_load rfl (by kernel_rfl) (ld31 (bO408_0.1) (bO408_1.1) (bO408_2.1) (bO408_3.1))) ?_
   refine pS (sn_call (f := 12) (args := #[.agg #[.int .i64 1, .int .i64 1, .slice (some ⟨b401, o402, none⟩) 24 k392, .slice a393 n394 c395]]) (by kernel_rfl) ((Missing_v (id := 1) (ver := 1) _ _ (by omega) (aa_q (hV403.aa)) (Ext.refl _) (hPx418) (Ext.refl _) (hT.ext hE) (by kernel_rfl)).mono ?_))
   rintro e w693 ⟨B689, o690, k691, rfl, hv692, hb⟩
   replace hE := hE.trans hb; replace hX684 := hX684.trans hb; have hs694 := hb.size; clear hb; have lt695 := hv692.lt
   refine ⟨_, rfl, ?_⟩
   refine pT (.tuple #[.agg #[.slice (some ⟨B689, o690, none⟩) 24 k691], .int .i64 0]) ?_; refine pT (.agg #[.slice (some ⟨B689, o690, none⟩) 24 k691]) ?_; refine pT (.int .i64 0) ?_
   refine pS (sn_new (us := #[.slice none 0 0]) (t := 26) (by kernel_rfl) ?_)
   intro O696 X697 hzO696 hyO696 hb hbx; have bO696_0 := bx1 hbx; clear hbx
   replace hE := hE.trans hb; replace hX684 := hX684.trans hb; replace hv692 := hv692.ext hb; have hs698 := hb.size; clear hb; have lt699 := bO696_0.lt
   refine pP (sn_set (O := O696) (j := 0) (v := .slice (some ⟨B689, o690, none⟩) 24 k691) (ex_store (p := .pointer (some ⟨O696, 0, none⟩)) (v := .agg #[.slice (some ⟨B689, o690, none⟩) 24 k691]) rfl (by kernel_rfl) (by kernel_rfl) (st26 bO696_0.1 bO696_0.2)) bO696_0 ?_)
   intro X700 ho hv0 hk; replace hE := ho.ext hE (T (T hs5 (T hs9 (T hs12 (T hs18 (T hs22 (T hs25 (T hs31 (T hs35 (T hs38 (T hn332 (T hs363 (T hs367 (T hs370 (T hn673 hs694)))))))))))))) (Nat.le_of_eq hzO696)); replace hX684 := ho.ext hX684 (T hs694 (Nat.le_of_eq hzO696)); replace hv692 := ho.va (Nat.ne_of_gt (Nat.lt_of_lt_of_le lt695 (Nat.le_of_eq hzO696))) hv692; have hs701 : X697.heap.size ≤ X700.heap.size := Nat.le_of_eq ho.size.symm; clear ho hk bO696_0; have bO696_0 := hv0; clear hv0; refine pT (.int .i64 0) ?_; refine pl_nil ?_; refine qw_then ?_; refine cw_seq ?_
   refine cw_join (fun ws' Y => ∃ B705 : Nat, ∃ b723 : Nat, ∃ o724 : Nat, ∃ k714 : Nat, ∃ a715 : Option Addr, ∃ n716 : Nat, ∃ c717 : Nat, ∃ O730 : Nat, ws' = [(3, .pointer (some ⟨O33, 0, none⟩)), (4, .pointer (some ⟨O75, 0, none⟩)), (5, .int .i64 0), (6, .pointer (some ⟨O365, 0, none⟩)), (7, .int .i64 0), (8, .pointer (some ⟨O408, 0, none⟩)), (9, .int .i64 0), (10, .pointer (some ⟨O696, 0, none⟩)), (11, .int .i64 0), (12, .pointer (some ⟨O730, 0, none⟩)), (13, .int .i64 0)] ∧ Ext w Y ∧ Ext Y672 Y ∧ PcsAt Y a351 n352 ([p5', p4', p6]) ∧ VA Y B689 o690 (Prod.rest (rowL 7) ([p5])) ∧ BoxAt Y O696 0 (.slice (some ⟨B689, o690, none⟩) 24 k691) ∧ VA Y B705 0 (rowL 2) ∧ n716 ≤ c717 ∧ Pl a715 ∧ VA Y b723 o724 (rowL 7) ∧ PcsAt Y a715 n716 ([p5]) ∧ BoxAt Y O730 0 (.int .i64 1) ∧ BoxAt Y O730 1 (.int .i64 1) ∧ BoxAt Y O730 2 (.slice (some ⟨b723, o724, none⟩) 24 k714) ∧ BoxAt Y O730 3 (.slice a715 n716 c717) ∧ X700.heap.size ≤ Y.heap.size ∧ X700.heap.size ≤ B705 ∧ X700.heap.size ≤ b723 ∧ X700.heap.size ≤ O730 ∧ Hid (B705 ≠ b723) ∧ Hid (B705 ≠ O730) ∧ Hid (b723 ≠ O730)) (fun hJ => ?_) ?_
   ·
    refine cw_draw [(some 55, [8], []), (some 56, [], []), (some 57, [56], [1]), (some 58, [55, 57], [0, 2, 1]), (some 54, [58], [3]), (some 59, [54], [4]), (some 60, [54], [4]), (some 12, [], []), (none, [12, 59], [7, 5, 3, 0, 1, 2, 3, 4, 5, 7]), (some 13, [60], [6, 8, 0, 1, 2, 3, 4, 5, 6, 7, 8])] (fun w' => w'.cell? ⟨O408, 0, none⟩ = some (.int .i64 1) ∧ w'.cell? ⟨O408, 1, none⟩ = some (.int .i64 1) ∧ w'.cell? ⟨O408, 2, none⟩ = some (.slice (some ⟨b401, o402, none⟩) 24 k392) ∧ w'.cell? ⟨O408, 3, none⟩ = some (.slice a393 n394 c395)) (by kernel_rfl) (by kernel_rfl) (by kernel_rfl) (by kernel_rfl) ((calm_then calm_body)) (⟨(BoxAt.ext hX684 bO408_0).1, (BoxAt.ext hX684 bO408_1).1, (BoxAt.ext hX684 bO408_2).1, (BoxAt.ext hX684 bO408_3).1⟩) (fun ops Q X702 hb hL hR hK => ?_)
    replace hE := hE.trans hb; replace hX684 := hX684.trans hb; replace hv692 := hv692.ext hb; replace bO696_0 := BoxAt.ext hb bO696_0; have hs703 := hb.size; clear hb
    have hS704 := And.intro ((BoxAt.ext hX684 bO408_0).1) (And.intro ((BoxAt.ext hX684 bO408_1).1) (And.intro ((BoxAt.ext hX684 bO408_2).1) ((BoxAt.ext hX684 bO408_3).1)))
    refine wT 0 (.agg #[.int .i64 1, .int .i64 1, .slice (some ⟨b401, o402, none⟩) 24 k392, .slice a393 n394 c395]) hR (fun w hS => ex_load rfl (by kernel_rfl) (ld31 (hS.1) (hS.2.1) (hS.2.2.1) (hS.2.2.2))) (hS704) ?_
    refine wd_two 1 7 hR rfl rfl (by kernel_rfl) (by kernel_rfl) (by kernel_rfl) (by kernel_rfl) ?_ ?_
    ·
     refine sn_call (f := 26) (args := #[.int .i64 2]) (by kernel_rfl) ((row_c 2 _).mono ?_)
     rintro e w708 ⟨B705, rfl, hn706, hr707, hb⟩
     replace hE := hE.trans hb; replace hX684 := hX684.trans hb; replace hv692 := hv692.ext hb; replace bO696_0 := BoxAt.ext hb bO696_0; have hs709 := hb.size; clear hb
     have hr707v := hr707.va (show Globe.validL (rowL 2) = true by kernel_rfl)
     have lt710 := hr707v.lt
     have hS711 := And.intro ((BoxAt.ext hX684 bO408_0).1) (And.intro ((BoxAt.ext hX684 bO408_1).1) (And.intro ((BoxAt.ext hX684 bO408_2).1) ((BoxAt.ext hX684 bO408_3).1)))
     refine ⟨_, rfl, hS711, ?_⟩
     refine wT 2 (.agg #[.int .i64 7, .int .i64 150, .bool false, .slice (some ⟨B705, 0, none⟩) 24 24]) hR (fun w _ => by kernel_rfl) (hS711) ?_
     refine wd_two 3 7 hR rfl rfl (by kernel_rfl) (by kernel_rfl) (by kernel_rfl) (by kernel_rfl) ?_ ?_
     ·
      refine sn_call (f := 21) (args := #[.agg #[.int .i64 1, .int .i64 1, .slice (some ⟨b401, o402, none⟩) 24 k392, .slice a393 n394 c395], .agg #[.int .i64 7, .int .i64 150, .bool false, .slice (some ⟨B705, 0, none⟩) 24 24]]) (by kernel_rfl) (((Next_c (id := 1) (ver := 1) (x := p7) _ _ (by omega) (aa_q (hV403.aa)) hX684 (hPx418) hX684 (hT.ext hE) hpl400 (aa_q (hr707v.aa)) (Ext.refl _)).mono fun _ _ h => h.eq (by kernel_rfl) (show _ = (1 : Int) by kernel_rfl) (show _ = [p5] by kernel_rfl)).mono ?_)
      rintro e w726 ⟨a712, n713, k714, a715, n716, c717, rfl, hA718, hfr719, hP720, hnc721, hpl722, hb⟩
      replace hE := hE.trans hb; replace hX684 := hX684.trans hb; replace hv692 := hv692.ext hb; replace bO696_0 := BoxAt.ext hb bO696_0; replace hr707v := hr707v.ext hb; have hs727 := hb.size; clear hb
      obtain ⟨b723, o724, rfl, rfl, hV725⟩ := va_of hA718 (by kernel_rfl)
      have hfr719l := hfr719 _ rfl
      have lt728 := hV725.lt
      have hP720n : PcsS (fun k => w708.heap.size ≤ k ∧ k < w726.heap.size) w726 a715 n716 ([p5]) := PcsS.both hP720
      have hS729 := And.intro ((BoxAt.ext hX684 bO408_0).1) (And.intro ((BoxAt.ext hX684 bO408_1).1) (And.intro ((BoxAt.ext hX684 bO408_2).1) ((BoxAt.ext hX684 bO408_3).1)))
      refine ⟨_, rfl, hS729, ?_⟩
      refine wT 4 (.tuple #[.agg #[.int .i64 1, .int .i64 1, .slice (some ⟨b723, o724, none⟩) 24 k714, .slice a715 n716 c717], .int .i64 0]) hR (fun w _ => by kernel_rfl) (hS729) ?_
      refine wT 5 (.agg #[.int .i64 1, .int .i64 1, .slice (some ⟨b723, o724, none⟩) 24 k714, .slice a715 n716 c717]) hR (fun w _ => by kernel_rfl) (hS729) ?_
      refine wT 6 (.int .i64 0) hR (fun w _ => by kernel_rfl) (hS729) ?_
      refine wS 7 hR (sn_new (us := #[.int .i64 0, .int .i64 0, .slice none 0 0, .slice none 0 0]) (t := 31) (by kernel_rfl) ?_)
      intro O730 X731 hzO730 hyO730 hb hbx; have ⟨bO730_0, bO730_1, bO730_2, bO730_3⟩ := bx4 hbx; clear hbx
      replace hE := hE.trans hb; replace hX684 := hX684.trans hb; replace hv692 := hv692.ext hb; replace bO696_0 := BoxAt.ext hb bO696_0; replace hr707v := hr707v.ext hb; replace hV725 := hV725.ext hb; replace hP720n := hP720n.ext hb; have hs732 := hb.size; clear hb; have lt733 := bO730_0.lt
      have hS734 := And.intro ((BoxAt.ext hX684 bO408_0).1) (And.intro ((BoxAt.ext hX684 bO408_1).1) (And.intro ((BoxAt.ext hX684 bO408_2).1) ((BoxAt.ext hX684 bO408_3).1)))
      refine ⟨hS734, ?_⟩
      refine wS 8 hR (sn_setK4 (O := O730) (j := 0) (v0 := .int .i64 1) (v1 := .int .i64 1) (v2 := .slice (some ⟨b723, o724, none⟩) 24 k714) (v3 := .slice a715 n716 c717) (ex_store (p := .pointer (some ⟨O730, 0, none⟩)) (v := .agg #[.int .i64 1, .int .i64 1, .slice (some ⟨b723, o724, none⟩) 24 k714, .slice a715 n716 c717]) rfl (by kernel_rfl) (by kernel_rfl) (st31 bO730_0.1 bO730_0.2 bO730_1.1 bO730_1.2 bO730_2.1 bO730_2.2 bO730_3.1 bO730_3.2)) bO730_0 bO730_1 bO730_2 bO730_3 ?_)
      intro X735 ho hv0 hv1 hv2 hv3 hk; replace hE := ho.ext hE (T (T hs5 (T hs9 (T hs12 (T hs18 (T hs22 (T hs25 (T hs31 (T hs35 (T hs38 (T hn332 (T hs363 (T hs367 (T hs370 (T hn673 (T hs694 (T hs698 (T hs701 (T hs703 (T hs709 hs727))))))))))))))))))) (Nat.le_of_eq hzO730)); replace hX684 := ho.ext hX684 (T (T hs694 (T hs698 (T hs701 (T hs703 (T hs709 hs727))))) (Nat.le_of_eq hzO730)); replace hv692 := ho.va (Nat.ne_of_gt (Nat.lt_of_lt_of_le lt695 (T (T hs698 (T hs701 (T hs703 (T hs709 hs727)))) (Nat.le_of_eq hzO730)))) hv692; replace bO696_0 := ho.box (Nat.ne_of_gt (Nat.lt_of_lt_of_le lt699 (T (T hs701 (T hs703 (T hs709 hs727))) (Nat.le_of_eq hzO730)))) bO696_0; replace hr707v := ho.va (Nat.ne_of_gt (Nat.lt_of_lt_of_le lt710 (T hs727 (Nat.le_of_eq hzO730)))) hr707v; replace hV725 := ho.va (Nat.ne_of_gt (Nat.lt_of_lt_of_le lt728 (Nat.le_of_eq hzO730))) hV725; replace hP720n := hP720n.turn ho (fun h => absurd h.2 (Nat.not_lt_of_le (Nat.le_of_eq hzO730))); have hs736 : X731.heap.size ≤ X735.heap.size := Nat.le_of_eq ho.size.symm; clear ho hk bO730_0 bO730_1 bO730_2 bO730_3; have bO730_0 := hv0; clear hv0; have bO730_1 := hv1; clear hv1; have bO730_2 := hv2; clear hv2; have bO730_3 := hv3; clear hv3
      have hS737 := And.intro ((BoxAt.ext hX684 bO408_0).1) (And.intro ((BoxAt.ext hX684 bO408_1).1) (And.intro ((BoxAt.ext hX684 bO408_2).1) ((BoxAt.ext hX684 bO408_3).1)))
      refine ⟨hS737, ?_⟩
      refine wT 9 (.int .i64 0) hR (fun w _ => by kernel_rfl) (hS737) ?_
      refine wd_end hL hR hK (by kernel_rfl) ?_
      have hPx738 := PcsS.pcs (hP356n.ext (hX371.trans hX684))
      have hX739 : Ext X735 X735 := Ext.refl _
      have hPx740 := PcsS.pcs hP720n
      exact qw_leaf hJ [3, 4, 5, 6, 7, 8, 9, 10, 11, 12, 13] (ws' := [(3, .pointer (some ⟨O33, 0, none⟩)), (4, .pointer (some ⟨O75, 0, none⟩)), (5, .int .i64 0), (6, .pointer (some ⟨O365, 0, none⟩)), (7, .int .i64 0), (8, .pointer (some ⟨O408, 0, none⟩)), (9, .int .i64 0), (10, .pointer (some ⟨O696, 0, none⟩)), (11, .int .i64 0), (12, .pointer (some ⟨O730, 0, none⟩)), (13, .int .i64 0)]) (by kernel_rfl) ⟨B705, b723, o724, k714, a715, n716, c717, O730, rfl, hE, (hX684.trans hX739), hPx738, hv692, bO696_0, hr707v, hnc721, hpl722, hV725, hPx740, bO730_0, bO730_1, bO730_2, bO730_3, (T hs703 (T hs709 (T hs727 (T hs732 hs736)))), (T hs703 hn706), (T (T hs703 hs709) hfr719l), (T (T hs703 (T hs709 hs727)) (Nat.le_of_eq hzO730)), Lib.hid (Nat.ne_of_lt (Nat.lt_of_lt_of_le lt710 hfr719l)), Lib.hid (Nat.ne_of_lt (Nat.lt_of_lt_of_le lt710 (T hs727 (Nat.le_of_eq hzO730)))), Lib.hid (Nat.ne_of_lt (Nat.lt_of_lt_of_le lt728 (Nat.le_of_eq hzO730)))⟩
     ·
      refine sn_new (us := #[.int .i64 0, .int .i64 0, .slice none 0 0, .slice none 0 0]) (t := 31) (by kernel_rfl) ?_
      intro O741 X742 hzO741 hyO741 hb hbx; have ⟨bO741_0, bO741_1, bO741_2, bO741_3⟩ := bx4 hbx; clear hbx
      replace hE := hE.trans hb; replace hX684 := hX684.trans hb; replace hv692 := hv692.ext hb; replace bO696_0 := BoxAt.ext hb bO696_0; replace hr707v := hr707v.ext hb; have hs743 := hb.size; clear hb; have lt744 := bO741_0.lt
      have hS745 := And.intro ((BoxAt.ext hX684 bO408_0).1) (And.intro ((BoxAt.ext hX684 bO408_1).1) (And.intro ((BoxAt.ext hX684 bO408_2).1) ((BoxAt.ext hX684 bO408_3).1)))
      refine ⟨hS745, ?_⟩
      refine wS 3 hR (sn_call (f := 21) (args := #[.agg #[.int .i64 1, .int .i64 1, .slice (some ⟨b401, o402, none⟩) 24 k392, .slice a393 n394 c395], .agg #[.int .i64 7, .int .i64 150, .bool false, .slice (some ⟨B705, 0, none⟩) 24 24]]) (by kernel_rfl) (((Next_c (id := 1) (ver := 1) (x := p7) _ _ (by omega) (aa_q (hV403.aa)) hX684 (hPx418) hX684 (hT.ext hE) hpl400 (aa_q (hr707v.aa)) (Ext.refl _)).mono fun _ _ h => h.eq (by kernel_rfl) (show _ = (1 : Int) by kernel_rfl) (show _ = [p5] by kernel_rfl)).mono ?_))
      rintro e w760 ⟨a746, n747, k748, a749, n750, c751, rfl, hA752, hfr753, hP754, hnc755, hpl756, hb⟩
      replace hE := hE.trans hb; replace hX684 := hX684.trans hb; replace hv692 := hv692.ext hb; replace bO696_0 := BoxAt.ext hb bO696_0; replace hr707v := hr707v.ext hb; replace bO741_0 := BoxAt.ext hb bO741_0; replace bO741_1 := BoxAt.ext hb bO741_1; replace bO741_2 := BoxAt.ext hb bO741_2; replace bO741_3 := BoxAt.ext hb bO741_3; have hs761 := hb.size; clear hb
      obtain ⟨b757, o758, rfl, rfl, hV759⟩ := va_of hA752 (by kernel_rfl)
      have hfr753l := hfr753 _ rfl
      have lt762 := hV759.lt
      have hP754n : PcsS (fun k => X742.heap.size ≤ k ∧ k < w760.heap.size) w760 a749 n750 ([p5]) := PcsS.both hP754
      have hS763 := And.intro ((BoxAt.ext hX684 bO408_0).1) (And.intro ((BoxAt.ext hX684 bO408_1).1) (And.intro ((BoxAt.ext hX684 bO408_2).1) ((BoxAt.ext hX684 bO408_3).1)))
      refine ⟨_, rfl, hS763, ?_⟩
      refine wT 4 (.tuple #[.agg #[.int .i64 1, .int .i64 1, .slice (some ⟨b757, o758, none⟩) 24 k748, .slice a749 n750 c751], .int .i64 0]) hR (fun w _ => by kernel_rfl) (hS763) ?_
      refine wT 5 (.agg #[.int .i64 1, .int .i64 1, .slice (some ⟨b757, o758, none⟩) 24 k748, .slice a749 n750 c751]) hR (fun w _ => by kernel_rfl) (hS763) ?_
      refine wT 6 (.int .i64 0) hR (fun w _ => by kernel_rfl) (hS763) ?_
      refine wS 8 hR (sn_setK4 (O := O741) (j := 0) (v0 := .int .i64 1) (v1 := .int .i64 1) (v2 := .slice (some ⟨b757, o758, none⟩) 24 k748) (v3 := .slice a749 n750 c751) (ex_store (p := .pointer (some ⟨O741, 0, none⟩)) (v := .agg #[.int .i64 1, .int .i64 1, .slice (some ⟨b757, o758, none⟩) 24 k748, .slice a749 n750 c751]) rfl (by kernel_rfl) (by kernel_rfl) (st31 bO741_0.1 bO741_0.2 bO741_1.1 bO741_1.2 bO741_2.1 bO741_2.2 bO741_3.1 bO741_3.2)) bO741_0 bO741_1 bO741_2 bO741_3 ?_)
      intro X764 ho hv0 hv1 hv2 hv3 hk; replace hE := ho.ext hE (T (T hs5 (T hs9 (T hs12 (T hs18 (T hs22 (T hs25 (T hs31 (T hs35 (T hs38 (T hn332 (T hs363 (T hs367 (T hs370 (T hn673 (T hs694 (T hs698 (T hs701 (T hs703 hs709)))))))))))))))))) (Nat.le_of_eq hzO741)); replace hX684 := ho.ext hX684 (T (T hs694 (T hs698 (T hs701 (T hs703 hs709)))) (Nat.le_of_eq hzO741)); replace hv692 := ho.va (Nat.ne_of_gt (Nat.lt_of_lt_of_le lt695 (T (T hs698 (T hs701 (T hs703 hs709))) (Nat.le_of_eq hzO741)))) hv692; replace bO696_0 := ho.box (Nat.ne_of_gt (Nat.lt_of_lt_of_le lt699 (T (T hs701 (T hs703 hs709)) (Nat.le_of_eq hzO741)))) bO696_0; replace hr707v := ho.va (Nat.ne_of_gt (Nat.lt_of_lt_of_le lt710 (Nat.le_of_eq hzO741))) hr707v; replace hV759 := ho.va (Nat.ne_of_lt (Nat.lt_of_lt_of_le lt744 hfr753l)) hV759; replace hP754n := hP754n.turn ho (fun h => absurd h.1 (Nat.not_le_of_lt (Nat.lt_of_lt_of_le lt744 (Nat.le_refl _)))); have hs765 : w760.heap.size ≤ X764.heap.size := Nat.le_of_eq ho.size.symm; clear ho hk bO741_0 bO741_1 bO741_2 bO741_3; have bO741_0 := hv0; clear hv0; have bO741_1 := hv1; clear hv1; have bO741_2 := hv2; clear hv2; have bO741_3 := hv3; clear hv3
      have hS766 := And.intro ((BoxAt.ext hX684 bO408_0).1) (And.intro ((BoxAt.ext hX684 bO408_1).1) (And.intro ((BoxAt.ext hX684 bO408_2).1) ((BoxAt.ext hX684 bO408_3).1)))
      refine ⟨hS766, ?_⟩
      refine wT 9 (.int .i64 0) hR (fun w _ => by kernel_rfl) (hS766) ?_
      refine wd_end hL hR hK (by kernel_rfl) ?_
      have hPx767 := PcsS.pcs (hP356n.ext (hX371.trans hX684))
      have hX768 : Ext X764 X764 := Ext.refl _
      have hPx769 := PcsS.pcs hP754n
      exact qw_leaf hJ [3, 4, 5, 6, 7, 8, 9, 10, 11, 12, 13] (ws' := [(3, .pointer (some ⟨O33, 0, none⟩)), (4, .pointer (some ⟨O75, 0, none⟩)), (5, .int .i64 0), (6, .pointer (some ⟨O365, 0, none⟩)), (7, .int .i64 0), (8, .pointer (some ⟨O408, 0, none⟩)), (9, .int .i64 0), (10, .pointer (some ⟨O696, 0, none⟩)), (11, .int .i64 0), (12, .pointer (some ⟨O741, 0, none⟩)), (13, .int .i64 0)]) (by kernel_rfl) ⟨B705, b757, o758, k748, a749, n750, c751, O741, rfl, hE, (hX684.trans hX768), hPx767, hv692, bO696_0, hr707v, hnc755, hpl756, hV759, hPx769, bO741_0, bO741_1, bO741_2, bO741_3, (T hs703 (T hs709 (T hs743 (T hs761 hs765)))), (T hs703 hn706), (T (T hs703 (T hs709 hs743)) hfr753l), (T (T hs703 hs709) (Nat.le_of_eq hzO741)), Lib.hid (Nat.ne_of_lt (Nat.lt_of_lt_of_le lt710 (T hs743 hfr753l))), Lib.hid (Nat.ne_of_lt (Nat.lt_of_lt_of_le lt710 (Nat.le_of_eq hzO741))), Lib.hid (Nat.ne_of_gt (Nat.lt_of_lt_of_le lt744 hfr753l))⟩
    ·
     refine sn_new (us := #[.int .i64 0, .int .i64 0, .slice none 0 0, .slice none 0 0]) (t := 31) (by kernel_rfl) ?_
     intro O770 X771 hzO770 hyO770 hb hbx; have ⟨bO770_0, bO770_1, bO770_2, bO770_3⟩ := bx4 hbx; clear hbx
     replace hE := hE.trans hb; replace hX684 := hX684.trans hb; replace hv692 := hv692.ext hb; replace bO696_0 := BoxAt.ext hb bO696_0; have hs772 := hb.size; clear hb; have lt773 := bO770_0.lt
     have hS774 := And.intro ((BoxAt.ext hX684 bO408_0).1) (And.intro ((BoxAt.ext hX684 bO408_1).1) (And.intro ((BoxAt.ext hX684 bO408_2).1) ((BoxAt.ext hX684 bO408_3).1)))
     refine ⟨hS774, ?_⟩
     refine wS 1 hR (sn_call (f := 26) (args := #[.int .i64 2]) (by kernel_rfl) ((row_c 2 _).mono ?_))
     rintro e w778 ⟨B775, rfl, hn776, hr777, hb⟩
     replace hE := hE.trans hb; replace hX684 := hX684.trans hb; replace hv692 := hv692.ext hb; replace bO696_0 := BoxAt.ext hb bO696_0; replace bO770_0 := BoxAt.ext hb bO770_0; replace bO770_1 := BoxAt.ext hb bO770_1; replace bO770_2 := BoxAt.ext hb bO770_2; replace bO770_3 := BoxAt.ext hb bO770_3; have hs779 := hb.size; clear hb
     have hr777v := hr777.va (show Globe.validL (rowL 2) = true by kernel_rfl)
     have lt780 := hr777v.lt
     have hS781 := And.intro ((BoxAt.ext hX684 bO408_0).1) (And.intro ((BoxAt.ext hX684 bO408_1).1) (And.intro ((BoxAt.ext hX684 bO408_2).1) ((BoxAt.ext hX684 bO408_3).1)))
     refine ⟨_, rfl, hS781, ?_⟩
     refine wT 2 (.agg #[.int .i64 7, .int .i64 150, .bool false, .slice (some ⟨B775, 0, none⟩) 24 24]) hR (fun w _ => by kernel_rfl) (hS781) ?_
     refine wS 3 hR (sn_call (f := 21) (args := #[.agg #[.int .i64 1, .int .i64 1, .slice (some ⟨b401, o402, none⟩) 24 k392, .slice a393 n394 c395], .agg #[.int .i64 7, .int .i64 150, .bool false, .slice (some ⟨B775, 0, none⟩) 24 24]]) (by kernel_rfl) (((Next_c (id := 1) (ver := 1) (x := p7) _ _ (by omega) (aa_q (hV403.aa)) hX684 (hPx418) hX684 (hT.ext hE) hpl400 (aa_q (hr777v.aa)) (Ext.refl _)).mono fun _ _ h => h.eq (by kernel_rfl) (show _ = (1 : Int) by kernel_rfl) (show _ = [p5] by kernel_rfl)).mono ?_))
     rintro e w796 ⟨a782, n783, k784, a785, n786, c787, rfl, hA788, hfr789, hP790, hnc791, hpl792, hb⟩
     replace hE := hE.trans hb; replace hX684 := hX684.trans hb; replace hv692 := hv692.ext hb; replace bO696_0 := BoxAt.ext hb bO696_0; replace bO770_0 := BoxAt.ext hb bO770_0; replace bO770_1 := BoxAt.ext hb bO770_1; replace bO770_2 := BoxAt.ext hb bO770_2; replace bO770_3 := BoxAt.ext hb bO770_3; replace hr777v := hr777v.ext hb; have hs797 := hb.size; clear hb
     obtain ⟨b793, o794, rfl, rfl, hV795⟩ := va_of hA788 (by kernel_rfl)
     have hfr789l := hfr789 _ rfl
     have lt798 := hV795.lt
     have hP790n : PcsS (fun k => w778.heap.size ≤ k ∧ k < w796.heap.size) w796 a785 n786 ([p5]) := PcsS.both hP790
     have hS799 := And.intro ((BoxAt.ext hX684 bO408_0).1) (And.intro ((BoxAt.ext hX684 bO408_1).1) (And.intro ((BoxAt.ext hX684 bO408_2).1) ((BoxAt.ext hX684 bO408_3).1)))
     refine ⟨_, rfl, hS799, ?_⟩
     refine wT 4 (.tuple #[.agg #[.int .i64 1, .int .i64 1, .slice (some ⟨b793, o794, none⟩) 24 k784, .slice a785 n786 c787], .int .i64 0]) hR (fun w _ => by kernel_rfl) (hS799) ?_
     refine wT 5 (.agg #[.int .i64 1, .int .i64 1, .slice (some ⟨b793, o794, none⟩) 24 k784, .slice a785 n786 c787]) hR (fun w _ => by kernel_rfl) (hS799) ?_
     refine wT 6 (.int .i64 0) hR (fun w _ => by kernel_rfl) (hS799) ?_
     refine wS 8 hR (sn_setK4 (O := O770) (j := 0) (v0 := .int .i64 1) (v1 := .int .i64 1) (v2 := .slice (some ⟨b793, o794, none⟩) 24 k784) (v3 := .slice a785 n786 c787) (ex_store (p := .pointer (some ⟨O770, 0, none⟩)) (v := .agg #[.int .i64 1, .int .i64 1, .slice (some ⟨b793, o794, none⟩) 24 k784, .slice a785 n786 c787]) rfl (by kernel_rfl) (by kernel_rfl) (st31 bO770_0.1 bO770_0.2 bO770_1.1 bO770_1.2 bO770_2.1 bO770_2.2 bO770_3.1 bO770_3.2)) bO770_0 bO770_1 bO770_2 bO770_3 ?_)
     intro X800 ho hv0 hv1 hv2 hv3 hk; replace hE := ho.ext hE (T (T hs5 (T hs9 (T hs12 (T hs18 (T hs22 (T hs25 (T hs31 (T hs35 (T hs38 (T hn332 (T hs363 (T hs367 (T hs370 (T hn673 (T hs694 (T hs698 (T hs701 hs703))))))))))))))))) (Nat.le_of_eq hzO770)); replace hX684 := ho.ext hX684 (T (T hs694 (T hs698 (T hs701 hs703))) (Nat.le_of_eq hzO770)); replace hv692 := ho.va (Nat.ne_of_gt (Nat.lt_of_lt_of_le lt695 (T (T hs698 (T hs701 hs703)) (Nat.le_of_eq hzO770)))) hv692; replace bO696_0 := ho.box (Nat.ne_of_gt (Nat.lt_of_lt_of_le lt699 (T (T hs701 hs703) (Nat.le_of_eq hzO770)))) bO696_0; replace hr777v := ho.va (Nat.ne_of_lt (Nat.lt_of_lt_of_le lt773 hn776)) hr777v; replace hV795 := ho.va (Nat.ne_of_lt (Nat.lt_of_lt_of_le lt773 (T hs779 hfr789l))) hV795; replace hP790n := hP790n.turn ho (fun h => absurd h.1 (Nat.not_le_of_lt (Nat.lt_of_lt_of_le lt773 hs779))); have hs801 : w796.heap.size ≤ X800.heap.size := Nat.le_of_eq ho.size.symm; clear ho hk bO770_0 bO770_1 bO770_2 bO770_3; have bO770_0 := hv0; clear hv0; have bO770_1 := hv1; clear hv1; have bO770_2 := hv2; clear hv2; have bO770_3 := hv3; clear hv3
     have hS802 := And.intro ((BoxAt.ext hX684 bO408_0).1) (And.intro ((BoxAt.ext hX684 bO408_1).1) (And.intro ((BoxAt.ext hX684 bO408_2).1) ((BoxAt.ext hX684 bO408_3).1)))
     refine ⟨hS802, ?_⟩
     refine wT 9 (.int .i64 0) hR (fun w _ => by kernel_rfl) (hS802) ?_
     refine wd_end hL hR hK (by kernel_rfl) ?_
     have hPx803 := PcsS.pcs (hP356n.ext (hX371.trans hX684))
     have hX804 : Ext X800 X800 := Ext.refl _
     have hPx805 := PcsS.pcs hP790n
     exact qw_leaf hJ [3, 4, 5, 6, 7, 8, 9, 10, 11, 12, 13] (ws' := [(3, .pointer (some ⟨O33, 0, none⟩)), (4, .pointer (some ⟨O75, 0, none⟩)), (5, .int .i64 0), (6, .pointer (some ⟨O365, 0, none⟩)), (7, .int .i64 0), (8, .pointer (some ⟨O408, 0, none⟩)), (9, .int .i64 0), (10, .pointer (some ⟨O696, 0, none⟩)), (11, .int .i64 0), (12, .pointer (some ⟨O770, 0, none⟩)), (13, .int .i64 0)]) (by kernel_rfl) ⟨B775, b793, o794, k784, a785, n786, c787, O770, rfl, hE, (hX684.trans hX804), hPx803, hv692, bO696_0, hr777v, hnc791, hpl792, hV795, hPx805, bO770_0, bO770_1, bO770_2, bO770_3, (T hs703 (T hs772 (T hs779 (T hs797 hs801)))), (T (T hs703 hs772) hn776), (T (T hs703 (T hs772 hs779)) hfr789l), (T hs703 (Nat.le_of_eq hzO770)), Lib.hid (Nat.ne_of_lt (Nat.lt_of_lt_of_le lt780 hfr789l)), Lib.hid (Nat.ne_of_gt (Nat.lt_of_lt_of_le lt773 hn776)), Lib.hid (Nat.ne_of_gt (Nat.lt_of_lt_of_le lt773 (T hs779 hfr789l)))⟩
   ·
    clear hv692 bO696_0 hE hX684
    rintro L ws Y806 ⟨B705, b723, o724, k714, a715, n716, c717, O730, rfl, hE, hX684, hPx738, hv692, bO696_0, hr707v, hnc721, hpl722, hV725, hPx740, bO730_0, bO730_1, bO730_2, bO730_3, hn807, hn808, hn809, hn810, hn811, hn812, hn813⟩
    have hX814 : Ext Y806 Y806 := Ext.refl _; have lt815 := hr707v.lt; have lt816 := hV725.lt; have lt817 := bO730_0.lt; refine qw_then ?_; refine cw_seq ?_; refine cw_plain ?_
    refine pS (sn_call (f := 26) (args := #[.int .i64 7]) (by kernel_rfl) ((row_c 7 _).mono ?_))
    rintro e w821 ⟨B818, rfl, hn819, hr820, hb⟩
    replace hE := hE.trans hb; replace hX814 := hX814.trans hb; have hs822 := hb.size; clear hb
    have hr820v := hr820.va (show Globe.validL (rowL 7) = true by kernel_rfl)
    have lt823 := hr820v.lt
    refine ⟨_, rfl, ?_⟩
    refine pS (sn_call (f := 11) (args := #[.int .i64 64, .agg #[.slice (some ⟨B818, 0, none⟩) 24 24], .slice none 0 0]) (by kernel_rfl) (((Build_c (id := 64) _ _ (by omega) (aa_q (hr820v.aa)) (Ext.refl _) (PcsAt.nil _ none) (Ext.refl _) (hT.ext hE)).mono fun _ _ h => h.n (show Prod.buildOk 64 (rowL 7) [] = false by kernel_rfl)).mono ?_))
    rintro e w824 ⟨rfl, hb⟩
    replace hE := hE.trans hb; replace hX814 := hX814.trans hb; replace hr820v := hr820v.ext hb; have hs825 := hb.size; clear hb
    refine ⟨_, rfl, ?_⟩
    refine pT (.tuple #[.agg #[.int .i64 0, .int .i64 0, .slice none 0 0, .slice none 0 0], .int .i64 310]) ?_; refine pT (.agg #[.int .i64 0, .int .i64 0, .slice none 0 0, .slice none 0 0]) ?_; refine pT (.int .i64 310) ?_
    refine pS (sn_new (us := #[.int .i64 0, .int .i64 0, .slice none 0 0, .slice none 0 0]) (t := 31) (by kernel_rfl) ?_)
    intro O826 X827 hzO826 hyO826 hb hbx; have ⟨bO826_0, bO826_1, bO826_2, bO826_3⟩ := bx4 hbx; clear hbx
    replace hE := hE.trans hb; replace hX814 := hX814.trans hb; replace hr820v := hr820v.ext hb; have hs828 := hb.size; clear hb; have lt829 := bO826_0.lt
    refine pP (sn_setK4 (O := O826) (j := 0) (v0 := .int .i64 0) (v1 := .int .i64 0) (v2 := .slice none 0 0) (v3 := .slice none 0 0) (ex_store (p := .pointer (some ⟨O826, 0, none⟩)) (v := .agg #[.int .i64 0, .int .i64 0, .slice none 0 0, .slice none 0 0]) rfl (by kernel_rfl) (by kernel_rfl) (st31 bO826_0.1 bO826_0.2 bO826_1.1 bO826_1.2 bO826_2.1 bO826_2.2 bO826_3.1 bO826_3.2)) bO826_0 bO826_1 bO826_2 bO826_3 ?_)
    intro X830 ho hv0 hv1 hv2 hv3 hk; replace hE := ho.ext hE (T (T hs5 (T hs9 (T hs12 (T hs18 (T hs22 (T hs25 (T hs31 (T hs35 (T hs38 (T hn332 (T hs363 (T hs367 (T hs370 (T hn673 (T hs694 (T hs698 (T hs701 (T hn807 (T hs822 hs825))))))))))))))))))) (Nat.le_of_eq hzO826)); replace hX814 := ho.ext hX814 (T (T hs822 hs825) (Nat.le_of_eq hzO826)); replace hr820v := ho.va (Nat.ne_of_gt (Nat.lt_of_lt_of_le lt823 (T hs825 (Nat.le_of_eq hzO826)))) hr820v; have hs831 : X827.heap.size ≤ X830.heap.size := Nat.le_of_eq ho.size.symm; clear ho hk bO826_0 bO826_1 bO826_2 bO826_3; have bO826_0 := hv0; clear hv0; have bO826_1 := hv1; clear hv1; have bO826_2 := hv2; clear hv2; have bO826_3 := hv3; clear hv3; refine pT (.int .i64 310) ?_; refine pl_nil ?_; refine qw_then ?_; refine cC12 3 4 5 6 7 8 9 10 11 12 13 15 (fun L => ?_); refine cw_seq ?_; refine cw_seq ?_; have hX832 : Ext X830 X830 := Ext.refl _; refine cw_plain ?_; refine pT (.int .i64 0) ?_; refine pT (.bool false) ?_; refine pT (.bool false) ?_; refine pT (.int .i64 0) ?_; refine pT (.bool false) ?_; refine pT (.bool false) ?_; refine pT (.bool false) ?_; refine pT (.int .i64 0) ?_; refine pT (.bool false) ?_; refine pT (.bool false) ?_; refine pT (.bool false) ?_; refine pT (.int .i64 0) ?_; refine pT (.bool false) ?_; refine pT (.bool false) ?_; refine pT (.bool false) ?_; refine pT (.int .i64 0) ?_; refine pT (.bool false) ?_; refine pT (.bool false) ?_; refine pT (.bool false) ?_; refine pT (.int .i64 310) ?_; refine pT (.bool false) ?_; refine pT (.bool false) ?_; refine pl_nil ?_; refine qw_then ?_; refine cC7 3 4 6 8 10 12 87 (fun L => ?_)
    refine cw_f (by kernel_rfl) ?_
    refine cw_skip ?_
    refine qw_then ?_; refine cw_seq ?_
    have hY833 := hX684.trans hX814
    have hY834 := hX371.trans hY833
    have hY835 := hX343.trans hY834
    refine cw_draw [(some 88, [4], []), (some 89, [], []), (some 90, [], [1]), (some 91, [90], [2]), (some 92, [], [2]), (some 93, [92], [4]), (some 94, [91, 93], [3, 5]), (some 95, [89, 94], [1, 6]), (some 96, [88, 95], [0, 7, 4]), (some 16, [96], [8, 8, 0, 1, 2, 3, 4, 5, 6, 7, 8])] (fun w' => w'.cell? ⟨O75, 0, none⟩ = some (.int .i64 1) ∧ w'.cell? ⟨O75, 1, none⟩ = some (.int .i64 1) ∧ w'.cell? ⟨O75, 2, none⟩ = some (.slice (some ⟨b68, o69, none⟩) 24 k59) ∧ w'.cell? ⟨O75, 3, none⟩ = some (.slice a60 n61 c62)) (by kernel_rfl) (by kernel_rfl) (by kernel_rfl) (by kernel_rfl) ((calm_then calm_body)) (⟨(BoxAt.ext (hY835.trans hX832) bO75_0).1, (BoxAt.ext (hY835.trans hX832) bO75_1).1, (BoxAt.ext (hY835.trans hX832) bO75_2).1, (BoxAt.ext (hY835.trans hX832) bO75_3).1⟩) (fun ops Q X836 hb hL hR hK => ?_)
    replace hE := hE.trans hb; replace hX832 := hX832.trans hb; have hs837 := hb.size; clear hb
    have hS838 := And.intro ((BoxAt.ext (hY835.trans hX832) bO75_0).1) (And.intro ((BoxAt.ext (hY835.trans hX832) bO75_1).1) (And.intro ((BoxAt.ext (hY835.trans hX832) bO75_2).1) ((BoxAt.ext (hY835.trans hX832) bO75_3).1)))
    refine wT 0 (.agg #[.int .i64 1, .int .i64 1, .slice (some ⟨b68, o69, none⟩) 24 k59, .slice a60 n61 c62]) hR (fun w hS => ex_load rfl (by kernel_rfl) (ld31 (hS.1) (hS.2.1) (hS.2.2.1) (hS.2.2.2))) (hS838) ?_
    refine wS 1 hR (sn_call (f := 26) (args := #[.int .i64 7]) (by kernel_rfl) ((row_c 7 _).mono ?_))
    rintro e w842 ⟨B839, rfl, hn840, hr841, hb⟩
    replace hE := hE.trans hb; replace hX832 := hX832.trans hb; have hs843 := hb.size; clear hb
    have hr841v := hr841.va (show Globe.validL (rowL 7) = true by kernel_rfl)
    have lt844 := hr841v.lt
    have hS845 := And.intro ((BoxAt.ext (hY835.trans hX832) bO75_0).1) (And.intro ((BoxAt.ext (hY835.trans hX832) bO75_1).1) (And.intro ((BoxAt.ext (hY835.trans hX832) bO75_2).1) ((BoxAt.ext (hY835.trans hX832) bO75_3).1)))
    refine ⟨_, rfl, hS845, ?_⟩
    refine wS 2 hR (sn_call (f := 26) (args := #[.int .i64 4]) (by kernel_rfl) ((row_c 4 _).mono ?_))
    rintro e w849 ⟨B846, rfl, hn847, hr848, hb⟩
    replace hE := hE.trans hb; replace hX832 := hX832.trans hb; replace hr841v := hr841v.ext hb; have hs850 := hb.size; clear hb
    have hr848v := hr848.va (show Globe.validL (rowL 4) = true by kernel_rfl)
    have lt851 := hr848v.lt
    have hS852 := And.intro ((BoxAt.ext (hY835.trans hX832) bO75_0).1) (And.intro ((BoxAt.ext (hY835.trans hX832) bO75_1).1) (And.intro ((BoxAt.ext (hY835.trans hX832) bO75_2).1) ((BoxAt.ext (hY835.trans hX832) bO75_3).1)))
    refine ⟨_, rfl, hS852, ?_⟩
    refine wT 3 (.agg #[.int .i64 5, .int .i64 200, .bool false, .slice (some ⟨B846, 0, none⟩) 24 24]) hR (fun w _ => by kernel_rfl) (hS852) ?_
    refine wS 4 hR (sn_call (f := 26) (args := #[.int .i64 3]) (by kernel_rfl) ((row_c 3 _).mono ?_))
    rintro e w856 ⟨B853, rfl, hn854, hr855, hb⟩
    replace hE := hE.trans hb; replace hX832 := hX832.trans hb; replace hr841v := hr841v.ext hb; replace hr848v := hr848v.ext hb; have hs857 := hb.size; clear hb
    have hr855v := hr855.va (show Globe.validL (rowL 3) = true by kernel_rfl)
    have lt858 := hr855v.lt
    have hS859 := And.intro ((BoxAt.ext (hY835.trans hX832) bO75_0).1) (And.intro ((BoxAt.ext (hY835.trans hX832) bO75_1).1) (And.intro ((BoxAt.ext (hY835.trans hX832) bO75_2).1) ((BoxAt.ext (hY835.trans hX832) bO75_3).1)))
    refine ⟨_, rfl, hS859, ?_⟩
    refine wT 5 (.agg #[.int .i64 4, .int .i64 100, .bool true, .slice (some ⟨B853, 0, none⟩) 24 24]) hR (fun w _ => by kernel_rfl) (hS859) ?_
    refine wS 6 hR (sn_newS (us := #[.int .i64 5, .int .i64 200, .bool false, .slice (some ⟨B846, 0, none⟩) 24 24, .int .i64 4, .int .i64 100, .bool true, .slice (some ⟨B853, 0, none⟩) 24 24]) (t := 41) (k := 2) (c := 2) (by kernel_rfl) ?_)
    intro O860 X861 hzO860 hyO860 hb hbx; have ⟨bO860_0, bO860_1, bO860_2, bO860_3, bO860_4, bO860_5, bO860_6, bO860_7⟩ := bx8 hbx; clear hbx
    replace hE := hE.trans hb; replace hX832 := hX832.trans hb; replace hr841v := hr841v.ext hb; replace hr848v := hr848v.ext hb; replace hr855v := hr855v.ext hb; have hs862 := hb.size; clear hb; have lt863 := bO860_0.lt
    have hS864 := And.intro ((BoxAt.ext (hY835.trans hX832) bO75_0).1) (And.intro ((BoxAt.ext (hY835.trans hX832) bO75_1).1) (And.intro ((BoxAt.ext (hY835.trans hX832) bO75_2).1) ((BoxAt.ext (hY835.trans hX832) bO75_3).1)))
    refine ⟨hS864, ?_⟩
    refine wT 7 (.agg #[.int .i64 1, .int .i64 1, .slice (some ⟨B839, 0, none⟩) 24 24, .slice (some ⟨O860, 0, none⟩) 2 2]) hR (fun w _ => by kernel_rfl) (hS864) ?_
    have hPB865 : PcsAt X861 (some ⟨O860, 0, none⟩) 2 [p5', p4] := PcsB.at (PcsB.cons (p := p5') (o := 0) (o' := 4) rfl (bO860_0.1) (bO860_1.1) (bO860_2.1) (bO860_3.1) (AA.ext (aa_q (hr848v.aa)) (Ext.refl _)) (PcsB.cons (p := p4) (o := 4) (o' := 8) rfl (bO860_4.1) (bO860_5.1) (bO860_6.1) (bO860_7.1) (AA.ext (aa_q (hr855v.aa)) (Ext.refl _)) PcsB.nil)) rfl (by omega)
    refine wS 8 hR (sn_call (f := 20) (args := #[.agg #[.int .i64 1, .int .i64 1, .slice (some ⟨b68, o69, none⟩) 24 k59, .slice a60 n61 c62], .agg #[.int .i64 1, .int .i64 1, .slice (some ⟨B839, 0, none⟩) 24 24, .slice (some ⟨O860, 0, none⟩) 2 2]]) (by kernel_rfl) ((rpSame_r (r := true) (id := 1) (ver := 1) (id2 := 1) (ver2 := 1) _ _ _ _ _ (aa_q (hV70.aa)) (hY835.trans hX832) (hPx83) (hY835.trans hX832) (aa_q (hr841v.aa)) (Ext.refl _) hPB865 (Ext.refl _) (by kernel_rfl)).mono ?_))
    rintro e w866 ⟨rfl, hb⟩
    replace hE := hE.trans hb; replace hX832 := hX832.trans hb; replace hr841v := hr841v.ext hb; replace hr848v := hr848v.ext hb; replace hr855v := hr855v.ext hb; replace bO860_0 := BoxAt.ext hb bO860_0; replace bO860_1 := BoxAt.ext hb bO860_1; replace bO860_2 := BoxAt.ext hb bO860_2; replace bO860_3 := BoxAt.ext hb bO860_3; replace bO860_4 := BoxAt.ext hb bO860_4; replace bO860_5 := BoxAt.ext hb bO860_5; replace bO860_6 := BoxAt.ext hb bO860_6; replace bO860_7 := BoxAt.ext hb bO860_7; have hs867 := hb.size; clear hb
    have hS868 := And.intro ((BoxAt.ext (hY835.trans hX832) bO75_0).1) (And.intro ((BoxAt.ext (hY835.trans hX832) bO75_1).1) (And.intro ((BoxAt.ext (hY835.trans hX832) bO75_2).1) ((BoxAt.ext (hY835.trans hX832) bO75_3).1)))
    refine ⟨_, rfl, hS868, ?_⟩
    refine wT 9 (.bool true) hR (fun w _ => by kernel_rfl) (hS868) ?_
    refine wd_end hL hR hK (by kernel_rfl) ?_
    refine qw_then ?_; refine cC7 3 4 6 8 10 12 16 (fun L => ?_); refine cw_seq ?_; have hX869 : Ext w866 w866 := Ext.refl _
    have hY870 := hX814.trans hX832
    have hY871 := hX684.trans hY870
    have hY872 := hX371.trans hY871
    have hY873 := hX343.trans hY872
    have hY874 := hX39.trans hY873
    refine cw_draw [(some 97, [6], []), (some 98, [], []), (some 99, [], [1]), (some 100, [99], [2]), (some 101, [], [2]), (some 102, [101], [4]), (some 103, [3], []), (some 104, [100, 102, 103], [3, 5, 6]), (some 105, [98, 104], [1, 7]), (some 106, [97, 105], [0, 8, 4]), (some 17, [106], [9, 9, 0, 1, 2, 3, 4, 5, 6, 7, 8, 9])] (fun w' => w'.cell? ⟨O365, 0, none⟩ = some (.int .i64 1) ∧ w'.cell? ⟨O365, 1, none⟩ = some (.int .i64 2) ∧ w'.cell? ⟨O365, 2, none⟩ = some (.slice (some ⟨b359, o360, none⟩) 24 k350) ∧ w'.cell? ⟨O365, 3, none⟩ = some (.slice a351 n352 c353) ∧ w'.cell? ⟨O33, 0, none⟩ = some (.int .i64 6) ∧ w'.cell? ⟨O33, 1, none⟩ = some (.int .i64 300) ∧ w'.cell? ⟨O33, 2, none⟩ = some (.bool true) ∧ w'.cell? ⟨O33, 3, none⟩ = some (.slice (some ⟨B27, 0, none⟩) 24 24)) (by kernel_rfl) (by kernel_rfl) (by kernel_rfl) (by kernel_rfl) ((calm_then calm_body)) (⟨(BoxAt.ext (hY872.trans hX869) bO365_0).1, (BoxAt.ext (hY872.trans hX869) bO365_1).1, (BoxAt.ext (hY872.trans hX869) bO365_2).1, (BoxAt.ext (hY872.trans hX869) bO365_3).1, (BoxAt.ext (hY874.trans hX869) bO33_0).1, (BoxAt.ext (hY874.trans hX869) bO33_1).1, (BoxAt.ext (hY874.trans hX869) bO33_2).1, (BoxAt.ext (hY874.trans hX869) bO33_3).1⟩) (fun ops Q X875 hb hL hR hK => ?_)
    replace hE := hE.trans hb; replace hX869 := hX869.trans hb; have hs876 := hb.size; clear hb
    have hS877 := And.intro ((BoxAt.ext (hY872.trans hX869) bO365_0).1) (And.intro ((BoxAt.ext (hY872.trans hX869) bO365_1).1) (And.intro ((BoxAt.ext (hY872.trans hX869) bO365_2).1) (And.intro ((BoxAt.ext (hY872.trans hX869) bO365_3).1) (And.intro ((BoxAt.ext (hY874.trans hX869) bO33_0).1) (And.intro ((BoxAt.ext (hY874.trans hX869) bO33_1).1) (And.intro ((BoxAt.ext (hY874.trans hX869) bO33_2).1) ((BoxAt.ext (hY874.trans hX869) bO33_3).1)))))))
    refine wT 0 (.agg #[.int .i64 1, .int .i64 2, .slice (some ⟨b359, o360, none⟩) 24 k350, .slice a351 n352 c353]) hR (fun w hS => ex_load rfl (by kernel_rfl) (ld31 (hS.1) (hS.2.1) (hS.2.2.1) (hS.2.2.2.1))) (hS877) ?_
    refine wT 6 (.agg #[.int .i64 6, .int .i64 300, .bool true, .slice (some ⟨B27, 0, none⟩) 24 24]) hR (fun w hS => ex_load rfl (by kernel_rfl) (ld41 (hS.2.2.2.2.1) (hS.2.2.2.2.2.1) (hS.2.2.2.2.2.2.1) (hS.2.2.2.2.2.2.2))) (hS877) ?_
    refine wS 1 hR (sn_call (f := 26) (args := #[.int .i64 7]) (by kernel_rfl) ((row_c 7 _).mono ?_))
    rintro e w881 ⟨B878, rfl, hn879, hr880, hb⟩
    replace hE := hE.trans hb; replace hX869 := hX869.trans hb; have hs882 := hb.size; clear hb
    have hr880v := hr880.va (show Globe.validL (rowL 7) = true by kernel_rfl)
    have lt883 := hr880v.lt
    have hS884 := And.intro ((BoxAt.ext (hY872.trans hX869) bO365_0).1) (And.intro ((BoxAt.ext (hY872.trans hX869) bO365_1).1) (And.intro ((BoxAt.ext (hY872.trans hX869) bO365_2).1) (And.intro ((BoxAt.ext (hY872.trans hX869) bO365_3).1) (And.intro ((BoxAt.ext (hY874.trans hX869) bO33_0).1) (And.intro ((BoxAt.ext (hY874.trans hX869) bO33_1).1) (And.intro ((BoxAt.ext (hY874.trans hX869) bO33_2).1) ((BoxAt.ext (hY874.trans hX869) bO33_3).1)))))))
    refine ⟨_, rfl, hS884, ?_⟩
    refine wS 2 hR (sn_call (f := 26) (args := #[.int .i64 4]) (by kernel_rfl) ((row_c 4 _).mono ?_))
    rintro e w888 ⟨B885, rfl, hn886, hr887, hb⟩
    replace hE := hE.trans hb; replace hX869 := hX869.trans hb; replace hr880v := hr880v.ext hb; have hs889 := hb.size; clear hb
    have hr887v := hr887.va (show Globe.validL (rowL 4) = true by kernel_rfl)
    have lt890 := hr887v.lt
    have hS891 := And.intro ((BoxAt.ext (hY872.trans hX869) bO365_0).1) (And.intro ((BoxAt.ext (hY872.trans hX869) bO365_1).1) (And.intro ((BoxAt.ext (hY872.trans hX869) bO365_2).1) (And.intro ((BoxAt.ext (hY872.trans hX869) bO365_3).1) (And.intro ((BoxAt.ext (hY874.trans hX869) bO33_0).1) (And.intro ((BoxAt.ext (hY874.trans hX869) bO33_1).1) (And.intro ((BoxAt.ext (hY874.trans hX869) bO33_2).1) ((BoxAt.ext (hY874.trans hX869) bO33_3).1)))))))
    refine ⟨_, rfl, hS891, ?_⟩
    refine wT 3 (.agg #[.int .i64 5, .int .i64 200, .bool false, .slice (some ⟨B885, 0, none⟩) 24 24]) hR (fun w _ => by kernel_rfl) (hS891) ?_
    refine wS 4 hR (sn_call (f := 26) (args := #[.int .i64 1]) (by kernel_rfl) ((row_c 1 _).mono ?_))
    rintro e w895 ⟨B892, rfl, hn893, hr894, hb⟩
    replace hE := hE.trans hb; replace hX869 := hX869.trans hb; replace hr880v := hr880v.ext hb; replace hr887v := hr887v.ext hb; have hs896 := hb.size; clear hb
    have hr894v := hr894.va (show Globe.validL (rowL 1) = true by kernel_rfl)
    have lt897 := hr894v.lt
    have hS898 := And.intro ((BoxAt.ext (hY872.trans hX869) bO365_0).1) (And.intro ((BoxAt.ext (hY872.trans hX869) bO365_1).1) (And.intro ((BoxAt.ext (hY872.trans hX869) bO365_2).1) (And.intro ((BoxAt.ext (hY872.trans hX869) bO365_3).1) (And.intro ((BoxAt.ext (hY874.trans hX869) bO33_0).1) (And.intro ((BoxAt.ext (hY874.trans hX869) bO33_1).1) (And.intro ((BoxAt.ext (hY874.trans hX869) bO33_2).1) ((BoxAt.ext (hY874.trans hX869) bO33_3).1)))))))
    refine ⟨_, rfl, hS898, ?_⟩
    refine wT 5 (.agg #[.int .i64 4, .int .i64 100, .bool true, .slice (some ⟨B892, 0, none⟩) 24 24]) hR (fun w _ => by kernel_rfl) (hS898) ?_
    refine wS 7 hR (sn_newS (us := #[.int .i64 5, .int .i64 200, .bool false, .slice (some ⟨B885, 0, none⟩) 24 24, .int .i64 4, .int .i64 100, .bool true, .slice (some ⟨B892, 0, none⟩) 24 24, .int .i64 6, .int .i64 300, .bool true, .slice (some ⟨B27, 0, none⟩) 24 24]) (t := 41) (k := 3) (c := 3) (by kernel_rfl) ?_)
    intro O899 X900 hzO899 hyO899 hb hbx; have ⟨bO899_0, bO899_1, bO899_2, bO899_3, bO899_4, bO899_5, bO899_6, bO899_7, bO899_8, bO899_9, bO899_10, bO899_11⟩ := bx12 hbx; clear hbx
    replace hE := hE.trans hb; replace hX869 := hX869.trans hb; replace hr880v := hr880v.ext hb; replace hr887v := hr887v.ext hb; replace hr894v := hr894v.ext hb; have hs901 := hb.size; clear hb; have lt902 := bO899_0.lt
    have hS903 := And.intro ((BoxAt.ext (hY872.trans hX869) bO365_0).1) (And.intro ((BoxAt.ext (hY872.trans hX869) bO365_1).1) (And.intro ((BoxAt.ext (hY872.trans hX869) bO365_2).1) (And.intro ((BoxAt.ext (hY872.trans hX869) bO365_3).1) (And.intro ((BoxAt.ext (hY874.trans hX869) bO33_0).1) (And.intro ((BoxAt.ext (hY874.trans hX869) bO33_1).1) (And.intro ((BoxAt.ext (hY874.trans hX869) bO33_2).1) ((BoxAt.ext (hY874.trans hX869) bO33_3).1)))))))
    refine ⟨hS903, ?_⟩
    refine wT 8 (.agg #[.int .i64 1, .int .i64 2, .slice (some ⟨B878, 0, none⟩) 24 24, .slice (some ⟨O899, 0, none⟩) 3 3]) hR (fun w _ => by kernel_rfl) (hS903) ?_
    have hPB904 : PcsAt X900 (some ⟨O899, 0, none⟩) 3 [p5', p4', p6] := PcsB.at (PcsB.cons (p := p5') (o := 0) (o' := 4) rfl (bO899_0.1) (bO899_1.1) (bO899_2.1) (bO899_3.1) (AA.ext (aa_q (hr887v.aa)) (Ext.refl _)) (PcsB.cons (p := p4') (o := 4) (o' := 8) rfl (bO899_4.1) (bO899_5.1) (bO899_6.1) (bO899_7.1) (AA.ext (aa_q (hr894v.aa)) (Ext.refl _)) (PcsB.cons (p := p6) (o := 8) (o' := 12) rfl (bO899_8.1) (bO899_9.1) (bO899_10.1) (bO899_11.1) (AA.ext (aa_q (hr29v.aa)) (hY874.trans hX869)) PcsB.nil))) rfl (by omega)
    refine wS 9 hR (sn_call (f := 20) (args := #[.agg #[.int .i64 1, .int .i64 2, .slice (some ⟨b359, o360, none⟩) 24 k350, .slice a351 n352 c353], .agg #[.int .i64 1, .int .i64 2, .slice (some ⟨B878, 0, none⟩) 24 24, .slice (some ⟨O899, 0, none⟩) 3 3]]) (by kernel_rfl) ((rpSame_r (r := true) (id := 1) (ver := 2) (id2 := 1) (ver2 := 2) _ _ _ _ _ (aa_q (hV361.aa)) (hY872.trans hX869) (hPx738) (hY870.trans hX869) (aa_q (hr880v.aa)) (Ext.refl _) hPB904 (Ext.refl _) (by kernel_rfl)).mono ?_))
    rintro e w905 ⟨rfl, hb⟩
    replace hE := hE.trans hb; replace hX869 := hX869.trans hb; replace hr880v := hr880v.ext hb; replace hr887v := hr887v.ext hb; replace hr894v := hr894v.ext hb; replace bO899_0 := BoxAt.ext hb bO899_0; replace bO899_1 := BoxAt.ext hb bO899_1; replace bO899_2 := BoxAt.ext hb bO899_2; replace bO899_3 := BoxAt.ext hb bO899_3; replace bO899_4 := BoxAt.ext hb bO899_4; replace bO899_5 := BoxAt.ext hb bO899_5; replace bO899_6 := BoxAt.ext hb bO899_6; replace bO899_7 := BoxAt.ext hb bO899_7; replace bO899_8 := BoxAt.ext hb bO899_8; replace bO899_9 := BoxAt.ext hb bO899_9; replace bO899_10 := BoxAt.ext hb bO899_10; replace bO899_11 := BoxAt.ext hb bO899_11; have hs906 := hb.size; clear hb
    have hS907 := And.intro ((BoxAt.ext (hY872.trans hX869) bO365_0).1) (And.intro ((BoxAt.ext (hY872.trans hX869) bO365_1).1) (And.intro ((BoxAt.ext (hY872.trans hX869) bO365_2).1) (And.intro ((BoxAt.ext (hY872.trans hX869) bO365_3).1) (And.intro ((BoxAt.ext (hY874.trans hX869) bO33_0).1) (And.intro ((BoxAt.ext (hY874.trans hX869) bO33_1).1) (And.intro ((BoxAt.ext (hY874.trans hX869) bO33_2).1) ((BoxAt.ext (hY874.trans hX869) bO33_3).1)))))))
    refine ⟨_, rfl, hS907, ?_⟩
    refine wT 10 (.bool true) hR (fun w _ => by kernel_rfl) (hS907) ?_
    refine wd_end hL hR hK (by kernel_rfl) ?_
    refine qw_then ?_; refine cC7 4 6 8 10 12 16 17 (fun L => ?_); refine cw_seq ?_; have hX908 : Ext w905 w905 := Ext.refl _; refine cw_plain ?_
    have hY909 := hX832.trans hX869
    have hY910 := hX814.trans hY909
    have hY911 := hX684.trans hY910
    have hY912 := hX371.trans hY911
    refine pU (.agg #[.int .i64 1, .int .i64 2, .slice (some ⟨b359, o360, none⟩) 24 k350, .slice a351 n352 c353]) (ex_load rfl (by kernel_rfl) (ld31 ((BoxAt.ext (hY912.trans hX908) bO365_0).1) ((BoxAt.ext (hY912.trans hX908) bO365_1).1) ((BoxAt.ext (hY912.trans hX908) bO365_2).1) ((BoxAt.ext (hY912.trans hX908) bO365_3).1))) ?_
    refine pT (.agg #[.int .i64 1, .int .i64 0]) ?_
    refine pS (sn_call (f := 16) (args := #[.agg #[.int .i64 1, .int .i64 2, .slice (some ⟨b359, o360, none⟩) 24 k350, .slice a351 n352 c353], .agg #[.int .i64 1, .int .i64 0]]) (by kernel_rfl) ((From_y (id := 1) (ver := 2) (u := 1) (v := 0) (p := p6) _ _ (by omega) (aa_q (hV361.aa)) (hY912.trans hX908) (hPx738) (hY910.trans hX908) (hT.ext hE) (by kernel_rfl) (by kernel_rfl)).mono ?_))
    rintro e w913 ⟨rfl, hb⟩
    replace hE := hE.trans hb; replace hX908 := hX908.trans hb; have hs914 := hb.size; clear hb
    refine ⟨_, rfl, ?_⟩
    refine pT (.tuple #[.int .i64 6, .bool true]) ?_; refine pT (.int .i64 6) ?_; refine pT (.bool true) ?_; refine pT (.int .i64 6) ?_; refine pT (.bool true) ?_; refine pl_nil ?_; refine qw_then ?_; refine cC9 4 6 8 10 12 16 17 18 19 (fun L => ?_); refine cw_seq ?_; refine cw_plain ?_
    refine pU (.agg #[.int .i64 1, .int .i64 1, .slice (some ⟨b401, o402, none⟩) 24 k392, .slice a393 n394 c395]) (ex_load rfl (by kernel_rfl) (ld31 ((BoxAt.ext (hY911.trans hX908) bO408_0).1) ((BoxAt.ext (hY911.trans hX908) bO408_1).1) ((BoxAt.ext (hY911.trans hX908) bO408_2).1) ((BoxAt.ext (hY911.trans hX908) bO408_3).1))) ?_
    refine pT (.agg #[.int .i64 0, .int .i64 0]) ?_
    refine pS (sn_call (f := 16) (args := #[.agg #[.int .i64 1, .int .i64 1, .slice (some ⟨b401, o402, none⟩) 24 k392, .slice a393 n394 c395], .agg #[.int .i64 0, .int .i64 0]]) (by kernel_rfl) ((From_n (id := 1) (ver := 1) (u := 0) (v := 0) _ _ (by omega) (aa_q (hV403.aa)) (hY911.trans hX908) (hPx418) (hY911.trans hX908) (hT.ext hE) (by kernel_rfl) (by kernel_rfl)).mono ?_))
    rintro e w915 ⟨rfl, hb⟩
    replace hE := hE.trans hb; replace hX908 := hX908.trans hb; have hs916 := hb.size; clear hb
    refine ⟨_, rfl, ?_⟩
    refine pT (.tuple #[.int .i64 0, .bool false]) ?_; refine pT (.int .i64 0) ?_; refine pT (.bool false) ?_; refine pT (.int .i64 0) ?_; refine pT (.bool false) ?_; refine pl_nil ?_; refine qw_then ?_; refine cC10 4 6 8 10 12 16 17 18 19 21 (fun L => ?_); refine cw_seq ?_
    have hY917 := hX343.trans hY912
    refine cw_draw [(some 119, [16], []), (some 120, [119], [0]), (some 121, [17, 120], [1]), (some 122, [120, 121], [1, 2]), (some 123, [122], [3, 1]), (some 124, [10, 123], [4]), (some 125, [123], [4, 4]), (some 126, [124, 125, 123], [5, 6, 6, 4]), (some 127, [123, 126], [4, 7]), (some 128, [127], [8, 7]), (some 129, [12, 128], [9]), (some 130, [8, 128], [9]), (some 131, [129, 130, 128], [10, 11, 9, 9]), (some 132, [128, 131], [9, 12]), (some 133, [132], [13, 12]), (some 134, [4, 133], [14]), (some 135, [6, 133], [14]), (some 136, [134, 135, 133], [15, 16, 14, 14]), (some 137, [136, 133], [17, 14]), (some 138, [133, 137], [14, 18]), (some 139, [138], [19, 17]), (some 140, [19, 139], [20]), (some 141, [139, 140], [20, 21]), (some 142, [141], [22, 20]), (some 143, [18, 142], [23]), (some 144, [143, 142], [24, 23]), (some 145, [142, 144], [23, 25]), (some 146, [145], [26, 23]), (some 147, [21, 146], [27]), (some 148, [147, 146], [28, 27]), (some 149, [146, 148], [27, 29]), (some 150, [149], [30, 27]), (some 151, [4, 150], [31]), (some 152, [151, 150], [32, 31, 31]), (some 153, [150, 152], [31, 33]), (some 154, [153], [34, 33]), (some 155, [8, 154], [35]), (some 156, [155, 154], [36, 35, 35]), (some 157, [156, 154], [37, 35]), (some 158, [154, 157], [35, 38]), (some 159, [158], [39, 37]), (some 160, [6, 159], [40]), (some 161, [4, 159], [40]), (some 162, [160, 161, 159], [41, 42, 40, 40]), (some 163, [159, 162], [40, 43]), (some 164, [163], [44, 43]), (some 165, [4, 164], [45]), (some 166, [6, 164], [45]), (some 167, [165, 166, 164], [46, 47, 45, 45]), (some 168, [167, 164], [48, 45]), (some 169, [164, 168], [45, 49]), (some 170, [169], [50, 48]), (some 171, [6, 170], [51]), (some 172, [171, 170], [52, 51, 51]), (some 173, [170, 172], [51, 53]), (some 174, [173], [54, 53]), (some 175, [174], [55]), (some 176, [175, 174], [56, 55, 55]), (some 177, [176, 174], [57, 55]), (some 178, [174, 177], [55, 58]), (some 0, [178], [59, 57, 0, 1, 2, 3, 4, 5, 6, 7, 8, 9, 10, 11, 12, 13, 14, 15, 16, 17, 18, 19, 20, 21, 22, 23, 24, 25, 26, 27, 28, 29, 30, 31, 32, 33, 34, 35, 36, 37, 38, 39, 40, 41, 42, 43, 44, 45, 46, 47, 48, 49, 50, 51, 52, 53, 54, 55, 56, 57, 58, 59])] (fun w' => w'.cell? ⟨O696, 0, none⟩ = some (.slice (some ⟨B689, o690, none⟩) 24 k691) ∧ w'.cell? ⟨O730, 0, none⟩ = some (.int .i64 1) ∧ w'.cell? ⟨O730, 1, none⟩ = some (.int .i64 1) ∧ w'.cell? ⟨O730, 2, none⟩ = some (.slice (some ⟨b723, o724, none⟩) 24 k714) ∧ w'.cell? ⟨O730, 3, none⟩ = some (.slice a715 n716 c717) ∧ w'.cell? ⟨O408, 0, none⟩ = some (.int .i64 1) ∧ w'.cell? ⟨O408, 1, none⟩ = some (.int .i64 1) ∧ w'.cell? ⟨O408, 2, none⟩ = some (.slice (some ⟨b401, o402, none⟩) 24 k392) ∧ w'.cell? ⟨O408, 3, none⟩ = some (.slice a393 n394 c395) ∧ w'.cell? ⟨O75, 0, none⟩ = some (.int .i64 1) ∧ w'.cell? ⟨O75, 1, none⟩ = some (.int .i64 1) ∧ w'.cell? ⟨O75, 2, none⟩ = some (.slice (some ⟨b68, o69, none⟩) 24 k59) ∧ w'.cell? ⟨O75, 3, none⟩ = some (.slice a60 n61 c62) ∧ w'.cell? ⟨O365, 0, none⟩ = some (.int .i64 1) ∧ w'.cell? ⟨O365, 1, none⟩ = some (.int .i64 2) ∧ w'.cell? ⟨O365, 2, none⟩ = some (.slice (some ⟨b359, o360, none⟩) 24 k350) ∧ w'.cell? ⟨O365, 3, none⟩ = some (.slice a351 n352 c353)) (by kernel_rfl) (by kernel_rfl) (by kernel_rfl) (by kernel_rfl) ((calm_then calm_body)) (⟨(BoxAt.ext (hY910.trans hX908) bO696_0).1, (BoxAt.ext (hY910.trans hX908) bO730_0).1, (BoxAt.ext (hY910.trans hX908) bO730_1).1, (BoxAt.ext (hY910.trans hX908) bO730_2).1, (BoxAt.ext (hY910.trans hX908) bO730_3).1, (BoxAt.ext (hY911.trans hX908) bO408_0).1, (BoxAt.ext (hY911.trans hX908) bO408_1).1, (BoxAt.ext (hY911.trans hX908) bO408_2).1, (BoxAt.ext (hY911.trans hX908) bO408_3).1, (BoxAt.ext (hY917.trans hX908) bO75_0).1, (BoxAt.ext (hY917.trans hX908) bO75_1).1, (BoxAt.ext (hY917.trans hX908) bO75_2).1, (BoxAt.ext (hY917.trans hX908) bO75_3).1, (BoxAt.ext (hY912.trans hX908) bO365_0).1, (BoxAt.ext (hY912.trans hX908) bO365_1).1, (BoxAt.ext (hY912.trans hX908) bO365_2).1, (BoxAt.ext (hY912.trans hX908) bO365_3).1⟩) (fun ops Q X918 hb hL hR hK => ?_)
    replace hE := hE.trans hb; replace hX908 := hX908.trans hb; have hs919 := hb.size; clear hb
    have hS920 := And.intro ((BoxAt.ext (hY910.trans hX908) bO696_0).1) (And.intro ((BoxAt.ext (hY910.trans hX908) bO730_0).1) (And.intro ((BoxAt.ext (hY910.trans hX908) bO730_1).1) (And.intro ((BoxAt.ext (hY910.trans hX908) bO730_2).1) (And.intro ((BoxAt.ext (hY910.trans hX908) bO730_3).1) (And.intro ((BoxAt.ext (hY911.trans hX908) bO408_0).1) (And.intro ((BoxAt.ext (hY911.trans hX908) bO408_1).1) (And.intro ((BoxAt.ext (hY911.trans hX908) bO408_2).1) (And.intro ((BoxAt.ext (hY911.trans hX908) bO408_3).1) (And.intro ((BoxAt.ext (hY917.trans hX908) bO75_0).1) (And.intro ((BoxAt.ext (hY917.trans hX908) bO75_1).1) (And.intro ((BoxAt.ext (hY917.trans hX908) bO75_2).1) (And.intro ((BoxAt.ext (hY917.trans hX908) bO75_3).1) (And.intro ((BoxAt.ext (hY912.trans hX908) bO365_0).1) (And.intro ((BoxAt.ext (hY912.trans hX908) bO365_1).1) (And.intro ((BoxAt.ext (hY912.trans hX908) bO365_2).1) ((BoxAt.ext (hY912.trans hX908) bO365_3).1))))))))))))))))
    refine wT 0 (.bool true) hR (fun w _ => by kernel_rfl) (hS920) ?_
    refine wT 1 (.bool true) hR (fun w _ => by kernel_rfl) (hS920) ?_
    refine wT 2 (.bool true) hR (fun w _ => by kernel_rfl) (hS920) ?_
    refine wT 3 (.bool true) hR (fun w _ => by kernel_rfl) (hS920) ?_
    refine wT 4 (.bool true) hR (fun w _ => by kernel_rfl) (hS920) ?_
    refine wT 5 (.agg #[.slice (some ⟨B689, o690, none⟩) 24 k691]) hR (fun w hS => ex_load rfl (by kernel_rfl) (ld26 (hS.1))) (hS920) ?_
    refine wS 6 hR (sn_call (f := 26) (args := #[.int .i64 1]) (by kernel_rfl) ((row_c 1 _).mono ?_))
    rintro e w924 ⟨B921, rfl, hn922, hr923, hb⟩
    replace hE := hE.trans hb; replace hX908 := hX908.trans hb; have hs925 := hb.size; clear hb
    have hr923v := hr923.va (show Globe.validL (rowL 1) = true by kernel_rfl)
    have lt926 := hr923v.lt
    have hS927 := And.intro ((BoxAt.ext (hY910.trans hX908) bO696_0).1) (And.intro ((BoxAt.ext (hY910.trans hX908) bO730_0).1) (And.intro ((BoxAt.ext (hY910.trans hX908) bO730_1).1) (And.intro ((BoxAt.ext (hY910.trans hX908) bO730_2).1) (And.intro ((BoxAt.ext (hY910.trans hX908) bO730_3).1) (And.intro ((BoxAt.ext (hY911.trans hX908) bO408_0).1) (And.intro ((BoxAt.ext (hY911.trans hX908) bO408_1).1) (And.intro ((BoxAt.ext (hY911.trans hX908) bO408_2).1) (And.intro ((BoxAt.ext (hY911.trans hX908) bO408_3).1) (And.intro ((BoxAt.ext (hY917.trans hX908) bO75_0).1) (And.intro ((BoxAt.ext (hY917.trans hX908) bO75_1).1) (And.intro ((BoxAt.ext (hY917.trans hX908) bO75_2).1) (And.intro ((BoxAt.ext (hY917.trans hX908) bO75_3).1) (And.intro ((BoxAt.ext (hY912.trans hX908) bO365_0).1) (And.intro ((BoxAt.ext (hY912.trans hX908) bO365_1).1) (And.intro ((BoxAt.ext (hY912.trans hX908) bO365_2).1) ((BoxAt.ext (hY912.trans hX908) bO365_3).1))))))))))))))))
    refine ⟨_, rfl, hS927, ?_⟩
    refine wS 7 hR (sn_call (f := 25) (args := #[.agg #[.slice (some ⟨B689, o690, none⟩) 24 k691], .agg #[.slice (some ⟨B921, 0, none⟩) 24 24]]) (by kernel_rfl) ((rSame_q (r := true) _ _ _ (hv692.aa) (hY910.trans hX908) (hr923v.aa) (Ext.refl _) (by kernel_rfl)).mono ?_))
    rintro e w928 ⟨rfl, hb⟩
    replace hE := hE.trans hb; replace hX908 := hX908.trans hb; replace hr923v := hr923v.ext hb; have hs929 := hb.size; clear hb
    have hS930 := And.intro ((BoxAt.ext (hY910.trans hX908) bO696_0).1) (And.intro ((BoxAt.ext (hY910.trans hX908) bO730_0).1) (And.intro ((BoxAt.ext (hY910.trans hX908) bO730_1).1) (And.intro ((BoxAt.ext (hY910.trans hX908) bO730_2).1) (And.intro ((BoxAt.ext (hY910.trans hX908) bO730_3).1) (And.intro ((BoxAt.ext (hY911.trans hX908) bO408_0).1) (And.intro ((BoxAt.ext (hY911.trans hX908) bO408_1).1) (And.intro ((BoxAt.ext (hY911.trans hX908) bO408_2).1) (And.intro ((BoxAt.ext (hY911.trans hX908) bO408_3).1) (And.intro ((BoxAt.ext (hY917.trans hX908) bO75_0).1) (And.intro ((BoxAt.ext (hY917.trans hX908) bO75_1).1) (And.intro ((BoxAt.ext (hY917.trans hX908) bO75_2).1) (And.intro ((BoxAt.ext (hY917.trans hX908) bO75_3).1) (And.intro ((BoxAt.ext (hY912.trans hX908) bO365_0).1) (And.intro ((BoxAt.ext (hY912.trans hX908) bO365_1).1) (And.intro ((BoxAt.ext (hY912.trans hX908) bO365_2).1) ((BoxAt.ext (hY912.trans hX908) bO365_3).1))))))))))))))))
    refine ⟨_, rfl, hS930, ?_⟩
    refine wT 8 (.bool true) hR (fun w _ => by kernel_rfl) (hS930) ?_
    refine wT 9 (.bool true) hR (fun w _ => by kernel_rfl) (hS930) ?_
    refine wT 10 (.agg #[.int .i64 1, .int .i64 1, .slice (some ⟨b723, o724, none⟩) 24 k714, .slice a715 n716 c717]) hR (fun w hS => ex_load rfl (by kernel_rfl) (ld31 (hS.2.1) (hS.2.2.1) (hS.2.2.2.1) (hS.2.2.2.2.1))) (hS930) ?_
    refine wT 11 (.agg #[.int .i64 1, .int .i64 1, .slice (some ⟨b401, o402, none⟩) 24 k392, .slice a393 n394 c395]) hR (fun w hS => ex_load rfl (by kernel_rfl) (ld31 (hS.2.2.2.2.2.1) (hS.2.2.2.2.2.2.1) (hS.2.2.2.2.2.2.2.1) (hS.2.2.2.2.2.2.2.2.1))) (hS930) ?_
    refine wS 12 hR (sn_call (f := 27) (args := #[.agg #[.int .i64 1, .int .i64 1, .slice (some ⟨b723, o724, none⟩) 24 k714, .slice a715 n716 c717], .agg #[.int .i64 1, .int .i64 1, .slice (some ⟨b401, o402, none⟩) 24 k392, .slice a393 n394 c395]]) (by kernel_rfl) ((pSame_r (r := true) (id := 1) (ver := 1) (id2 := 1) (ver2 := 1) _ _ _ _ _ (aa_q (hV725.aa)) (hY910.trans hX908) (hPx740) (hY910.trans hX908) (aa_q (hV403.aa)) (hY911.trans hX908) (hPx418) (hY911.trans hX908) (by kernel_rfl)).mono ?_))
    rintro e w931 ⟨rfl, hb⟩
    replace hE := hE.trans hb; replace hX908 := hX908.trans hb; replace hr923v := hr923v.ext hb; have hs932 := hb.size; clear hb
    have hS933 := And.intro ((BoxAt.ext (hY910.trans hX908) bO696_0).1) (And.intro ((BoxAt.ext (hY910.trans hX908) bO730_0).1) (And.intro ((BoxAt.ext (hY910.trans hX908) bO730_1).1) (And.intro ((BoxAt.ext (hY910.trans hX908) bO730_2).1) (And.intro ((BoxAt.ext (hY910.trans hX908) bO730_3).1) (And.intro ((BoxAt.ext (hY911.trans hX908) bO408_0).1) (And.intro ((BoxAt.ext (hY911.trans hX908) bO408_1).1) (And.intro ((BoxAt.ext (hY911.trans hX908) bO408_2).1) (And.intro ((BoxAt.ext (hY911.trans hX908) bO408_3).1) (And.intro ((BoxAt.ext (hY917.trans hX908) bO75_0).1) (And.intro ((BoxAt.ext (hY917.trans hX908) bO75_1).1) (And.intro ((BoxAt.ext (hY917.trans hX908) bO75_2).1) (And.intro ((BoxAt.ext (hY917.trans hX908) bO75_3).1) (And.intro ((BoxAt.ext (hY912.trans hX908) bO365_0).1) (And.intro ((BoxAt.ext (hY912.trans hX908) bO365_1).1) (And.intro ((BoxAt.ext (hY912.trans hX908) bO365_2).1) ((BoxAt.ext (hY912.trans hX908) bO365_3).1))))))))))))))))
    refine ⟨_, rfl, hS933, ?_⟩
    refine wT 13 (.bool true) hR (fun w _ => by kernel_rfl) (hS933) ?_
    refine wT 14 (.bool true) hR (fun w _ => by kernel_rfl) (hS933) ?_
    refine wT 15 (.agg #[.int .i64 1, .int .i64 1, .slice (some ⟨b68, o69, none⟩) 24 k59, .slice a60 n61 c62]) hR (fun w hS => ex_load rfl (by kernel_rfl) (ld31 (hS.2.2.2.2.2.2.2.2.2.1) (hS.2.2.2.2.2.2.2.2.2.2.1) (hS.2.2.2.2.2.2.2.2.2.2.2.1) (hS.2.2.2.2.2.2.2.2.2.2.2.2.1))) (hS933) ?_
    refine wT 16 (.agg #[.int .i64 1, .int .i64 2, .slice (some ⟨b359, o360, none⟩) 24 k350, .slice a351 n352 c353]) hR (fun w hS => ex_load rfl (by kernel_rfl) (ld31 (hS.2.2.2.2.2.2.2.2.2.2.2.2.2.1) (hS.2.2.2.2.2.2.2.2.2.2.2.2.2.2.1) (hS.2.2.2.2.2.2.2.2.2.2.2.2.2.2.2.1) (hS.2.2.2.2.2.2.2.2.2.2.2.2.2.2.2.2))) (hS933) ?_
    refine wS 17 hR (sn_call (f := 27) (args := #[.agg #[.int .i64 1, .int .i64 1, .slice (some ⟨b68, o69, none⟩) 24 k59, .slice a60 n61 c62], .agg #[.int .i64 1, .int .i64 2, .slice (some ⟨b359, o360, none⟩) 24 k350, .slice a351 n352 c353]]) (by kernel_rfl) ((pSame_r (r := false) (id := 1) (ver := 1) (id2 := 1) (ver2 := 2) _ _ _ _ _ (aa_q (hV70.aa)) (hY917.trans hX908) (hPx83) (hY917.trans hX908) (aa_q (hV361.aa)) (hY912.trans hX908) (hPx738) (hY910.trans hX908) (by kernel_rfl)).mono ?_))
    rintro e w934 ⟨rfl, hb⟩
    replace hE := hE.trans hb; replace hX908 := hX908.trans hb; replace hr923v := hr923v.ext hb; have hs935 := hb.size; clear hb
    have hS936 := And.intro ((BoxAt.ext (hY910.trans hX908) bO696_0).1) (And.intro ((BoxAt.ext (hY910.trans hX908) bO730_0).1) (And.intro ((BoxAt.ext (hY910.trans hX908) bO730_1).1) (And.intro ((BoxAt.ext (hY910.trans hX908) bO730_2).1) (And.intro ((BoxAt.ext (hY910.trans hX908) bO730_3).1) (And.intro ((BoxAt.ext (hY911.trans hX908) bO408_0).1) (And.intro ((BoxAt.ext (hY911.trans hX908) bO408_1).1) (And.intro ((BoxAt.ext (hY911.trans hX908) bO408_2).1) (And.intro ((BoxAt.ext (hY911.trans hX908) bO408_3).1) (And.intro ((BoxAt.ext (hY917.trans hX908) bO75_0).1) (And.intro ((BoxAt.ext (hY917.trans hX908) bO75_1).1) (And.intro ((BoxAt.ext (hY917.trans hX908) bO75_2).1) (And.intro ((BoxAt.ext (hY917.trans hX908) bO75_3).1) (And.intro ((BoxAt.ext (hY912.trans hX908) bO365_0).1) (And.intro ((BoxAt.ext (hY912.trans hX908) bO365_1).1) (And.intro ((BoxAt.ext (hY912.trans hX908) bO365_2).1) ((BoxAt.ext (hY912.trans hX908) bO365_3).1))))))))))))))))
    refine ⟨_, rfl, hS936, ?_⟩
    refine wT 18 (.bool true) hR (fun w _ => by kernel_rfl) (hS936) ?_
    refine wT 19 (.bool true) hR (fun w _ => by kernel_rfl) (hS936) ?_
    refine wT 20 (.bool true) hR (fun w _ => by kernel_rfl) (hS936) ?_
    refine wT 21 (.bool true) hR (fun w _ => by kernel_rfl) (hS936) ?_
    refine wT 22 (.bool true) hR (fun w _ => by kernel_rfl) (hS936) ?_
    refine wT 23 (.bool true) hR (fun w _ => by kernel_rfl) (hS936) ?_
    refine wT 24 (.int .i64 6) hR (fun w _ => by kernel_rfl) (hS936) ?_
    refine wT 25 (.bool true) hR (fun w _ => by kernel_rfl) (hS936) ?_
    refine wT 26 (.bool true) hR (fun w _ => by kernel_rfl) (hS936) ?_
    refine wT 27 (.bool true) hR (fun w _ => by kernel_rfl) (hS936) ?_
    refine wT 28 (.bool false) hR (fun w _ => by kernel_rfl) (hS936) ?_
    refine wT 29 (.bool true) hR (fun w _ => by kernel_rfl) (hS936) ?_
    refine wT 30 (.bool true) hR (fun w _ => by kernel_rfl) (hS936) ?_
    refine wT 31 (.bool true) hR (fun w _ => by kernel_rfl) (hS936) ?_
    refine wT 32 (.agg #[.int .i64 1, .int .i64 1, .slice (some ⟨b68, o69, none⟩) 24 k59, .slice a60 n61 c62]) hR (fun w hS => ex_load rfl (by kernel_rfl) (ld31 (hS.2.2.2.2.2.2.2.2.2.1) (hS.2.2.2.2.2.2.2.2.2.2.1) (hS.2.2.2.2.2.2.2.2.2.2.2.1) (hS.2.2.2.2.2.2.2.2.2.2.2.2.1))) (hS936) ?_
    refine wS 33 hR (sn_call (f := 17) (args := #[.agg #[.int .i64 1, .int .i64 1, .slice (some ⟨b68, o69, none⟩) 24 k59, .slice a60 n61 c62]]) (by kernel_rfl) ((Complete_r (r := true) (id := 1) (ver := 1) _ _ (by omega) (aa_q (hV70.aa)) (hY917.trans hX908) (hPx83) (hY917.trans hX908) (hT.ext hE) (by kernel_rfl)).mono ?_))
    rintro e w937 ⟨rfl, hb⟩
    replace hE := hE.trans hb; replace hX908 := hX908.trans hb; replace hr923v := hr923v.ext hb; have hs938 := hb.size; clear hb
    have hS939 := And.intro ((BoxAt.ext (hY910.trans hX908) bO696_0).1) (And.intro ((BoxAt.ext (hY910.trans hX908) bO730_0).1) (And.intro ((BoxAt.ext (hY910.trans hX908) bO730_1).1) (And.intro ((BoxAt.ext (hY910.trans hX908) bO730_2).1) (And.intro ((BoxAt.ext (hY910.trans hX908) bO730_3).1) (And.intro ((BoxAt.ext (hY911.trans hX908) bO408_0).1) (And.intro ((BoxAt.ext (hY911.trans hX908) bO408_1).1) (And.intro ((BoxAt.ext (hY911.trans hX908) bO408_2).1) (And.intro ((BoxAt.ext (hY911.trans hX908) bO408_3).1) (And.intro ((BoxAt.ext (hY917.trans hX908) bO75_0).1) (And.intro ((BoxAt.ext (hY917.trans hX908) bO75_1).1) (And.intro ((BoxAt.ext (hY917.trans hX908) bO75_2).1) (And.intro ((BoxAt.ext (hY917.trans hX908) bO75_3).1) (And.intro ((BoxAt.ext (hY912.trans hX908) bO365_0).1) (And.intro ((BoxAt.ext (hY912.trans hX908) bO365_1).1) (And.intro ((BoxAt.ext (hY912.trans hX908) bO365_2).1) ((BoxAt.ext (hY912.trans hX908) bO365_3).1))))))))))))))))
    refine ⟨_, rfl, hS939, ?_⟩
    refine wT 34 (.bool true) hR (fun w _ => by kernel_rfl) (hS939) ?_
    refine wT 35 (.bool true) hR (fun w _ => by kernel_rfl) (hS939) ?_
    refine wT 36 (.agg #[.int .i64 1, .int .i64 1, .slice (some ⟨b401, o402, none⟩) 24 k392, .slice a393 n394 c395]) hR (fun w hS => ex_load rfl (by kernel_rfl) (ld31 (hS.2.2.2.2.2.1) (hS.2.2.2.2.2.2.1) (hS.2.2.2.2.2.2.2.1) (hS.2.2.2.2.2.2.2.2.1))) (hS939) ?_
    refine wS 37 hR (sn_call (f := 17) (args := #[.agg #[.int .i64 1, .int .i64 1, .slice (some ⟨b401, o402, none⟩) 24 k392, .slice a393 n394 c395]]) (by kernel_rfl) ((Complete_r (r := false) (id := 1) (ver := 1) _ _ (by omega) (aa_q (hV403.aa)) (hY911.trans hX908) (hPx418) (hY911.trans hX908) (hT.ext hE) (by kernel_rfl)).mono ?_))
    rintro e w940 ⟨rfl, hb⟩
    replace hE := hE.trans hb; replace hX908 := hX908.trans hb; replace hr923v := hr923v.ext hb; have hs941 := hb.size; clear hb
    have hS942 := And.intro ((BoxAt.ext (hY910.trans hX908) bO696_0).1) (And.intro ((BoxAt.ext (hY910.trans hX908) bO730_0).1) (And.intro ((BoxAt.ext (hY910.trans hX908) bO730_1).1) (And.intro ((BoxAt.ext (hY910.trans hX908) bO730_2).1) (And.intro ((BoxAt.ext (hY910.trans hX908) bO730_3).1) (And.intro ((BoxAt.ext (hY911.trans hX908) bO408_0).1) (And.intro ((BoxAt.ext (hY911.trans hX908) bO408_1).1) (And.intro ((BoxAt.ext (hY911.trans hX908) bO408_2).1) (And.intro ((BoxAt.ext (hY911.trans hX908) bO408_3).1) (And.intro ((BoxAt.ext (hY917.trans hX908) bO75_0).1) (And.intro ((BoxAt.ext (hY917.trans hX908) bO75_1).1) (And.intro ((BoxAt.ext (hY917.trans hX908) bO75_2).1) (And.intro ((BoxAt.ext (hY917.trans hX908) bO75_3).1) (And.intro ((BoxAt.ext (hY912.trans hX908) bO365_0).1) (And.intro ((BoxAt.ext (hY912.trans hX908) bO365_1).1) (And.intro ((BoxAt.ext (hY912.trans hX908) bO365_2).1) ((BoxAt.ext (hY912.trans hX908) bO365_3).1))))))))))))))))
    refine ⟨_, rfl, hS942, ?_⟩
    refine wT 38 (.bool true) hR (fun w _ => by kernel_rfl) (hS942) ?_
    refine wT 39 (.bool true) hR (fun w _ => by kernel_rfl) (hS942) ?_
    refine wT 40 (.bool true) hR (fun w _ => by kernel_rfl) (hS942) ?_
    refine wT 41 (.agg #[.int .i64 1, .int .i64 2, .slice (some ⟨b359, o360, none⟩) 24 k350, .slice a351 n352 c353]) hR (fun w hS => ex_load rfl (by kernel_rfl) (ld31 (hS.2.2.2.2.2.2.2.2.2.2.2.2.2.1) (hS.2.2.2.2.2.2.2.2.2.2.2.2.2.2.1) (hS.2.2.2.2.2.2.2.2.2.2.2.2.2.2.2.1) (hS.2.2.2.2.2.2.2.2.2.2.2.2.2.2.2.2))) (hS942) ?_
    refine wT 42 (.agg #[.int .i64 1, .int .i64 1, .slice (some ⟨b68, o69, none⟩) 24 k59, .slice a60 n61 c62]) hR (fun w hS => ex_load rfl (by kernel_rfl) (ld31 (hS.2.2.2.2.2.2.2.2.2.1) (hS.2.2.2.2.2.2.2.2.2.2.1) (hS.2.2.2.2.2.2.2.2.2.2.2.1) (hS.2.2.2.2.2.2.2.2.2.2.2.2.1))) (hS942) ?_
    refine wS 43 hR (sn_call (f := 22) (args := #[.agg #[.int .i64 1, .int .i64 2, .slice (some ⟨b359, o360, none⟩) 24 k350, .slice a351 n352 c353], .agg #[.int .i64 1, .int .i64 1, .slice (some ⟨b68, o69, none⟩) 24 k59, .slice a60 n61 c62]]) (by kernel_rfl) ((Over_r (r := true) (id := 1) (ver := 2) (id2 := 1) (ver2 := 1) _ _ _ (by omega) (by omega) (aa_q (hV361.aa)) (hY912.trans hX908) (hPx738) (hY910.trans hX908) (aa_q (hV70.aa)) (hY917.trans hX908) (hPx83) (hY917.trans hX908) (hT.ext hE) (by kernel_rfl)).mono ?_))
    rintro e w943 ⟨rfl, hb⟩
    replace hE := hE.trans hb; replace hX908 := hX908.trans hb; replace hr923v := hr923v.ext hb; have hs944 := hb.size; clear hb
    have hS945 := And.intro ((BoxAt.ext (hY910.trans hX908) bO696_0).1) (And.intro ((BoxAt.ext (hY910.trans hX908) bO730_0).1) (And.intro ((BoxAt.ext (hY910.trans hX908) bO730_1).1) (And.intro ((BoxAt.ext (hY910.trans hX908) bO730_2).1) (And.intro ((BoxAt.ext (hY910.trans hX908) bO730_3).1) (And.intro ((BoxAt.ext (hY911.trans hX908) bO408_0).1) (And.intro ((BoxAt.ext (hY911.trans hX908) bO408_1).1) (And.intro ((BoxAt.ext (hY911.trans hX908) bO408_2).1) (And.intro ((BoxAt.ext (hY911.trans hX908) bO408_3).1) (And.intro ((BoxAt.ext (hY917.trans hX908) bO75_0).1) (And.intro ((BoxAt.ext (hY917.trans hX908) bO75_1).1) (And.intro ((BoxAt.ext (hY917.trans hX908) bO75_2).1) (And.intro ((BoxAt.ext (hY917.trans hX908) bO75_3).1) (And.intro ((BoxAt.ext (hY912.trans hX908) bO365_0).1) (And.intro ((BoxAt.ext (hY912.trans hX908) bO365_1).1) (And.intro ((BoxAt.ext (hY912.trans hX908) bO365_2).1) ((BoxAt.ext (hY912.trans hX908) bO365_3).1))))))))))))))))
    refine ⟨_, rfl, hS945, ?_⟩
    refine wT 44 (.bool true) hR (fun w _ => by kernel_rfl) (hS945) ?_
    refine wT 45 (.bool true) hR (fun w _ => by kernel_rfl) (hS945) ?_
    refine wT 46 (.agg #[.int .i64 1, .int .i64 1, .slice (some ⟨b68, o69, none⟩) 24 k59, .slice a60 n61 c62]) hR (fun w hS => ex_load rfl (by kernel_rfl) (ld31 (hS.2.2.2.2.2.2.2.2.2.1) (hS.2.2.2.2.2.2.2.2.2.2.1) (hS.2.2.2.2.2.2.2.2.2.2.2.1) (hS.2.2.2.2.2.2.2.2.2.2.2.2.1))) (hS945) ?_
    refine wT 47 (.agg #[.int .i64 1, .int .i64 2, .slice (some ⟨b359, o360, none⟩) 24 k350, .slice a351 n352 c353]) hR (fun w hS => ex_load rfl (by kernel_rfl) (ld31 (hS.2.2.2.2.2.2.2.2.2.2.2.2.2.1) (hS.2.2.2.2.2.2.2.2.2.2.2.2.2.2.1) (hS.2.2.2.2.2.2.2.2.2.2.2.2.2.2.2.1) (hS.2.2.2.2.2.2.2.2.2.2.2.2.2.2.2.2))) (hS945) ?_
    refine wS 48 hR (sn_call (f := 22) (args := #[.agg #[.int .i64 1, .int .i64 1, .slice (some ⟨b68, o69, none⟩) 24 k59, .slice a60 n61 c62], .agg #[.int .i64 1, .int .i64 2, .slice (some ⟨b359, o360, none⟩) 24 k350, .slice a351 n352 c353]]) (by kernel_rfl) ((Over_r (r := false) (id := 1) (ver := 1) (id2 := 1) (ver2 := 2) _ _ _ (by omega) (by omega) (aa_q (hV70.aa)) (hY917.trans hX908) (hPx83) (hY917.trans hX908) (aa_q (hV361.aa)) (hY912.trans hX908) (hPx738) (hY910.trans hX908) (hT.ext hE) (by kernel_rfl)).mono ?_))
    rintro e w946 ⟨rfl, hb⟩
    replace hE := hE.trans hb; replace hX908 := hX908.trans hb; replace hr923v := hr923v.ext hb; have hs947 := hb.size; clear hb
    have hS948 := And.intro ((BoxAt.ext (hY910.trans hX908) bO696_0).1) (And.intro ((BoxAt.ext (hY910.trans hX908) bO730_0).1) (And.intro ((BoxAt.ext (hY910.trans hX908) bO730_1).1) (And.intro ((BoxAt.ext (hY910.trans hX908) bO730_2).1) (And.intro ((BoxAt.ext (hY910.trans hX908) bO730_3).1) (And.intro ((BoxAt.ext (hY911.trans hX908) bO408_0).1) (And.intro ((BoxAt.ext (hY911.trans hX908) bO408_1).1) (And.intro ((BoxAt.ext (hY911.trans hX908) bO408_2).1) (And.intro ((BoxAt.ext (hY911.trans hX908) bO408_3).1) (And.intro ((BoxAt.ext (hY917.trans hX908) bO75_0).1) (And.intro ((BoxAt.ext (hY917.trans hX908) bO75_1).1) (And.intro ((BoxAt.ext (hY917.trans hX908) bO75_2).1) (And.intro ((BoxAt.ext (hY917.trans hX908) bO75_3).1) (And.intro ((BoxAt.ext (hY912.trans hX908) bO365_0).1) (And.intro ((BoxAt.ext (hY912.trans hX908) bO365_1).1) (And.intro ((BoxAt.ext (hY912.trans hX908) bO365_2).1) ((BoxAt.ext (hY912.trans hX908) bO365_3).1))))))))))))))))
    refine ⟨_, rfl, hS948, ?_⟩
    refine wT 49 (.bool true) hR (fun w _ => by kernel_rfl) (hS948) ?_
    refine wT 50 (.bool true) hR (fun w _ => by kernel_rfl) (hS948) ?_
    refine wT 51 (.bool true) hR (fun w _ => by kernel_rfl) (hS948) ?_
    refine wT 52 (.agg #[.int .i64 1, .int .i64 2, .slice (some ⟨b359, o360, none⟩) 24 k350, .slice a351 n352 c353]) hR (fun w hS => ex_load rfl (by kernel_rfl) (ld31 (hS.2.2.2.2.2.2.2.2.2.2.2.2.2.1) (hS.2.2.2.2.2.2.2.2.2.2.2.2.2.2.1) (hS.2.2.2.2.2.2.2.2.2.2.2.2.2.2.2.1) (hS.2.2.2.2.2.2.2.2.2.2.2.2.2.2.2.2))) (hS948) ?_
    refine wS 53 hR (sn_call (f := 28) (args := #[.agg #[.int .i64 1, .int .i64 2, .slice (some ⟨b359, o360, none⟩) 24 k350, .slice a351 n352 c353]]) (by kernel_rfl) ((pValid_r (r := true) (id := 1) (ver := 2) _ _ (by omega) (aa_q (hV361.aa)) (hY912.trans hX908) (hPx738) (hY910.trans hX908) (hT.ext hE) (by kernel_rfl)).mono ?_))
    rintro e w949 ⟨rfl, hb⟩
    replace hE := hE.trans hb; replace hX908 := hX908.trans hb; replace hr923v := hr923v.ext hb; have hs950 := hb.size; clear hb
    have hS951 := And.intro ((BoxAt.ext (hY910.trans hX908) bO696_0).1) (And.intro ((BoxAt.ext (hY910.trans hX908) bO730_0).1) (And.intro ((BoxAt.ext (hY910.trans hX908) bO730_1).1) (And.intro ((BoxAt.ext (hY910.trans hX908) bO730_2).1) (And.intro ((BoxAt.ext (hY910.trans hX908) bO730_3).1) (And.intro ((BoxAt.ext (hY911.trans hX908) bO408_0).1) (And.intro ((BoxAt.ext (hY911.trans hX908) bO408_1).1) (And.intro ((BoxAt.ext (hY911.trans hX908) bO408_2).1) (And.intro ((BoxAt.ext (hY911.trans hX908) bO408_3).1) (And.intro ((BoxAt.ext (hY917.trans hX908) bO75_0).1) (And.intro ((BoxAt.ext (hY917.trans hX908) bO75_1).1) (And.intro ((BoxAt.ext (hY917.trans hX908) bO75_2).1) (And.intro ((BoxAt.ext (hY917.trans hX908) bO75_3).1) (And.intro ((BoxAt.ext (hY912.trans hX908) bO365_0).1) (And.intro ((BoxAt.ext (hY912.trans hX908) bO365_1).1) (And.intro ((BoxAt.ext (hY912.trans hX908) bO365_2).1) ((BoxAt.ext (hY912.trans hX908) bO365_3).1))))))))))))))))
    refine ⟨_, rfl, hS951, ?_⟩
    refine wT 54 (.bool true) hR (fun w _ => by kernel_rfl) (hS951) ?_
    refine wT 55 (.bool true) hR (fun w _ => by kernel_rfl) (hS951) ?_
    refine wT 56 (.agg #[.int .i64 0, .int .i64 0, .slice none 0 0, .slice none 0 0]) hR (fun w _ => by kernel_rfl) (hS951) ?_
    refine wS 57 hR (sn_call (f := 28) (args := #[.agg #[.int .i64 0, .int .i64 0, .slice none 0 0, .slice none 0 0]]) (by kernel_rfl) ((pValid_r (r := false) (id := 0) (ver := 0) _ _ (by omega) (aa_nil w949) (Ext.refl _) (PcsAt.nil w949 none) (Ext.refl _) (hT.ext hE) (by kernel_rfl)).mono ?_))
    rintro e w952 ⟨rfl, hb⟩
    replace hE := hE.trans hb; replace hX908 := hX908.trans hb; replace hr923v := hr923v.ext hb; have hs953 := hb.size; clear hb
    have hS954 := And.intro ((BoxAt.ext (hY910.trans hX908) bO696_0).1) (And.intro ((BoxAt.ext (hY910.trans hX908) bO730_0).1) (And.intro ((BoxAt.ext (hY910.trans hX908) bO730_1).1) (And.intro ((BoxAt.ext (hY910.trans hX908) bO730_2).1) (And.intro ((BoxAt.ext (hY910.trans hX908) bO730_3).1) (And.intro ((BoxAt.ext (hY911.trans hX908) bO408_0).1) (And.intro ((BoxAt.ext (hY911.trans hX908) bO408_1).1) (And.intro ((BoxAt.ext (hY911.trans hX908) bO408_2).1) (And.intro ((BoxAt.ext (hY911.trans hX908) bO408_3).1) (And.intro ((BoxAt.ext (hY917.trans hX908) bO75_0).1) (And.intro ((BoxAt.ext (hY917.trans hX908) bO75_1).1) (And.intro ((BoxAt.ext (hY917.trans hX908) bO75_2).1) (And.intro ((BoxAt.ext (hY917.trans hX908) bO75_3).1) (And.intro ((BoxAt.ext (hY912.trans hX908) bO365_0).1) (And.intro ((BoxAt.ext (hY912.trans hX908) bO365_1).1) (And.intro ((BoxAt.ext (hY912.trans hX908) bO365_2).1) ((BoxAt.ext (hY912.trans hX908) bO365_3).1))))))))))))))))
    refine ⟨_, rfl, hS954, ?_⟩
    refine wT 58 (.bool true) hR (fun w _ => by kernel_rfl) (hS954) ?_
    refine wT 59 (.bool true) hR (fun w _ => by kernel_rfl) (hS954) ?_
    refine wT 60 (.bool true) hR (fun w _ => by kernel_rfl) (hS954) ?_
    refine wd_end hL hR hK (by kernel_rfl) ?_
    refine qw_then ?_; refine cC1 0 (fun L => ?_)
    refine cw_ret ?_
    refine qw_ret [.bool true] rfl ⟨(by kernel_rfl), trivial⟩ ?_
    exact ⟨rfl, hE⟩

end Go.Proofs.YtajdohcgjgknmaaDoor

/- The mathematics of what is built: it is valid; the order of the pieces does not matter. -/
namespace Go.Proofs.YtajdohcgjgknmaaDoor
namespace Prod
open Globe
theorem own_valid {r : List Int} {x : Pc} (h : validL r = true) (hx : okP x = true) : okP (own r x) = true := by
 obtain ⟨a, b, c⟩ := okP_t.1 hx
 exact okP_t.2 ⟨a, b, meet_valid h⟩
theorem mem_divF : ∀ {s : List Pc} {r : List Int} {y : Pc}, y ∈ divF r s → ∃ p ∈ s, y.im = p.im ∧ y.cl = p.cl ∧ y.t = p.t ∧ ∀ u v, v < 24 → hasL y.rw u v = true → hasL p.rw u v = true ∧ hasL r u v = true
  | [], _, _, h => by cases h
  | x :: s, r, y, h => by
    rw [divF] at h
    rcases List.mem_append.1 h with h | h
    · split at h
      · cases h
      · rw [List.mem_singleton.1 h]
        refine ⟨x, by simp, rfl, rfl, rfl, fun u v hv hh => ?_⟩
        have : hasL (meetL r x.rw) u v = true := hh
        rw [has_meet hv, Bool.and_eq_true] at this
        exact ⟨this.2, this.1⟩
    · obtain ⟨p, hp, h1, h2, h3, h4⟩ := mem_divF h
      refine ⟨p, by simp [hp], h1, h2, h3, fun u v hv hh => ?_⟩
      obtain ⟨q1, q2⟩ := h4 u v hv hh
      rw [has_less hv, Bool.and_eq_true] at q2
      exact ⟨q1, q2.1⟩
theorem noC_false {l : List Int} (h : validL l = true) : noC l = false ↔ ∃ x y, x < 48 ∧ y < 24 ∧ hasL l x y = true := by
  constructor
  · intro hn
    apply Classical.byContradiction
    intro hc
    have : noC l = true := (noC_iff h).2 fun x y hx hy => by
      cases hh : hasL l x y
      · rfl
      · exact absurd ⟨x, y, hx, hy, hh⟩ hc
    rw [hn] at this; cases this
  · rintro ⟨x, y, hx, hy, hh⟩
    cases hn : noC l
    · rfl
    · rw [(noC_iff h).1 hn x y hx hy] at hh; cases hh
theorem any_im {pre : List Pc} {im : Int} (h : ∀ q ∈ pre, q.im ≠ im) : (pre.any fun p => decide (p.im = im)) = false := by
 rw [List.any_eq_false]
 exact fun q hq => by simpa using h q hq
theorem vGo_div : ∀ (n : Nat) {s : List Pc}, s.length = n → Sorted s → Dist s → (∀ p ∈ s, okP p = true) → ∀ {r : List Int}, validL r = true → ∀ {free : List Int} {pre : List Pc}, validL free = true →
    (∀ y ∈ divF r s, ∀ u v, v < 24 → hasL y.rw u v = true → hasL free u v = true) → (∀ q ∈ pre, ∀ p ∈ s, q.im ≠ p.im) → (∀ q, pre.getLast? = some q → ∀ p ∈ s, better p q = true) → vGo free pre (divF r s).reverse = true
  | 0, s, hl, _, _, _, r, _, free, pre, _, _, _, _ => by
    obtain rfl := List.eq_nil_of_length_eq_zero hl
    rfl
  | n + 1, s, hl, hs, hd, ho, r, hr, free, pre, hf, hin, him, hbt => by
    rcases List.eq_nil_or_concat s with rfl | ⟨s', x, rfl⟩
    · simp at hl
    rw [List.concat_eq_append] at *
    have hl' : s'.length = n := by simpa using hl
    have hs' : Sorted s' := (List.pairwise_append.1 hs).1
    have hd' : Dist s' := (List.pairwise_append.1 hd).1
    have hsx : ∀ p ∈ s', better p x = true := fun p hp => (List.pairwise_append.1 hs).2.2 p hp x (by simp)
    have hdx : ∀ p ∈ s', p.im ≠ x.im := fun p hp => (List.pairwise_append.1 hd).2.2 p hp x (by simp)
    have ho' : ∀ p ∈ s', okP p = true := fun p hp => ho p (by simp [hp])
    have hR := rest_valid s' hr
    rw [divF_snoc] at hin ⊢
    rw [List.reverse_append]
    cases hz : noC (meetL (rest r s') x.rw)
    · rw [hz] at hin
      rw [if_neg (by simp)] at hin ⊢
      show vGo free pre (own (rest r s') x :: (divF r s').reverse) = true
      have hoy : okP (own (rest r s') x) = true := own_valid hR (ho x (by simp))
      have hyv : validL (own (rest r s') x).rw = true := meet_valid hR
      rw [vGo, Bool.and_eq_true]
      refine ⟨?_, vGo_div n hl' hs' hd' ho' hr (less_valid hf) (fun y hy u v hv hh => ?_) (fun q hq p hp => ?_) (fun q hq p hp => ?_)⟩
      · unfold stepOk
        rw [hoy, show noC (own (rest r s') x).rw = false from hz, (contains_iff hf hyv).2 (fun u v _ hv hh => hin _ (by simp) u v hv hh), any_im (im := (own (rest r s') x).im) (fun q hq => him q hq x (by simp))]
        cases hg : pre.getLast? with
        | none => rfl
        | some q => have h9 : better (own (rest r s') x) q = true := hbt q hg x (by simp); dsimp only; rw [h9]; rfl
      · rw [has_less hv, hin y (by simp [hy]) u v hv hh]
        obtain ⟨p, hp, _, _, _, h4⟩ := mem_divF hy
        have h5 := (h4 u v hv hh).1
        cases h6 : hasL (own (rest r s') x).rw u v
        · rfl
        · have h7 : hasL (meetL (rest r s') x.rw) u v = true := h6
          rw [has_meet hv, has_rest hv, Bool.and_eq_true, Bool.and_eq_true] at h7
          have h8 := List.all_eq_true.1 h7.1.2 p hp
          rw [h5] at h8; cases h8
      · rcases List.mem_append.1 hq with hq | hq
        · exact him q hq p (by simp [hp])
        · rw [List.mem_singleton.1 hq]; exact (hdx p hp).symm
      · rw [List.getLast?_append, List.getLast?_singleton] at hq
        cases hq
        exact hsx p hp
    · rw [hz] at hin
      rw [if_pos rfl] at hin ⊢
      rw [List.append_nil] at hin
      show vGo free pre (divF r s').reverse = true
      exact vGo_div n hl' hs' hd' ho' hr hf hin (fun q hq p hp => him q hq p (by simp [hp])) (fun q hq p hp => hbt q hq p (by simp [hp]))
theorem sortD_ok {l : List Pc} (h : ∀ p ∈ l, okP p = true) : ∀ p ∈ sortD l, okP p = true := fun p hp => h p ((sortD_perm l).mem_iff.1 hp)
theorem divide_len (ar : List Int) (l : List Pc) : (divide ar l).length ≤ l.length := by
 unfold divide
 rw [List.length_reverse]
 exact T (divF_len _ _) (Nat.le_of_eq (sortD_perm l).length_eq)
/-- What is built is valid. -/
theorem divide_valid {id ver : Int} {ar : List Int} {l : List Pc} (hid : 0 ≤ id ∧ id ≤ 63) (hver : 1 ≤ ver ∧ ver ≤ 100) (ha : validL ar = true) (ho : ∀ p ∈ l, okP p = true) (hd : Dist l) (hn : l.length ≤ 24) : validP id ver ar (divide ar l) = true := by
 unfold validP headOk
 rw [inB_t.2 hid, inB_t.2 hver, ha, decide_eq_true (T (divide_len ar l) hn)]
 have := vGo_div _ rfl (sortD_sorted hd) ((Dist.perm (sortD_perm l)).2 hd) (sortD_ok ho) ha (free := ar) (pre := []) ha (fun y hy u v hv hh => by
  obtain ⟨p, _, _, _, _, h4⟩ := mem_divF hy
  exact (h4 u v hv hh).2) (fun q hq => by cases hq) (fun q hq => by simp at hq)
 exact this
theorem build_ok {id : Int} {ar : List Int} {l : List Pc} (hid : 0 ≤ id ∧ id ≤ 63) (ha : validL ar = true) (hg : goodL l = true) (hn : l.length ≤ 24) : buildOk id ar l = true := by
 unfold buildOk
 rw [decide_eq_true hn, ha, hg, divide_valid hid (by omega) ha (goodL_ok hg) (goodL_dist hg) hn]; rfl
theorem sameP_refl (id ver : Int) (ar : List Int) (ps : List Pc) : sameP id ver ar ps id ver ar ps = true := by unfold sameP; rw [sameL_iff.2 rfl]; simp
end Prod
end Go.Proofs.YtajdohcgjgknmaaDoor

/- What every law of this seat uses: the listed tables; integers in their bounds. -/
namespace Go.Proofs.YtajdohcgjgknmaaDoor
open Go.ChangeShapes Go.WideShapes Go.ChangeAt Go.RowKit

theorem own : ownKnob Tryd.prog.godebug = none := by kernel_rfl
theorem laidOut : laidOutB Tryd.prog = true := by kernel_rfl
def laidTabs : List (String × DataW Unit) := [("math/bits.deBruijn32tab", Rows.laid_math_bits_deBruijn32tab), ("math/bits.deBruijn64tab", Rows.laid_math_bits_deBruijn64tab)]
theorem gTab : Tryd.prog.globalNamed "math/bits.deBruijn64tab" = some 1 := by kernel_rfl
theorem tTab : (Tryd.prog.globals[1]?).map (·.type) = some 109 := by kernel_rfl

theorem door_met (os : Os) (args : Array Value) : laidMetH Tryd.prog laidTabs ((World.doorLaid Tryd.prog 19 os).forCall (fun _ _ => 0) ⟨#[], args, []⟩).memory :=
 laidMetH_of_parts3 (fuel := 8) (laidMet_of_run' 8 (by kernel_rfl) (by kernel_rfl)) (by kernel_rfl) (by kernel_rfl)

theorem tab_of_laid {W : World} (h : laidMetH Tryd.prog laidTabs W) : Tab W := by
 rw [MakeChecks.laidMetH_plain _ _ _ (by kernel_rfl)] at h
 have h2 : laidMet Tryd.prog [("math/bits.deBruijn64tab", Lib.tabData .u8 (Lib.deBruijn64tab.map Int.ofNat))] W := laidMet.tail h
 have ht := Lib.tabIs_of_head gTab tTab Tryd.underlying109 Tryd.underlying5 (by kernel_rfl) (by kernel_rfl) h2
 have hc : ∀ j, j < 64 → W.cell? ⟨1, j, none⟩ = some (.int .u8 (Lib.deBruijn64tab.getD j 0)) := fun j hj => by
  have := Lib.TabIs.cell ht gTab j (by rw [List.length_map]; exact hj)
  rw [this]
  simp [List.getD_eq_getElem?_getD, List.getElem?_map]
  rw [List.getElem?_eq_getElem (show j < Lib.deBruijn64tab.length from hj)]
  rfl
 exact ⟨World.block_lt_of_cell? W _ (hc 0 (by decide)), hc⟩

theorem isI_of_wf {n : Int} (h : (Lit.int .i64 n).wf = true) : IsI n := by
 simp [Lit.wf, IntKind.min, IntKind.max, IntKind.signed, IntKind.bits] at h
 exact ⟨by omega, by omega⟩

end Go.Proofs.YtajdohcgjgknmaaDoor
