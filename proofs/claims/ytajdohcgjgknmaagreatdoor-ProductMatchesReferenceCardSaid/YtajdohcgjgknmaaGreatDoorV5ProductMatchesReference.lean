/- Part 5 of what the proof of ProductMatchesReference stands on. -/
import Derived.Test.YtajdohcgjgknmaaGreatDoorV4ProductMatchesReference
import Derived.Test.YtajdohcgjgknmaaGreatDoorTie
import Derived.Test.YtajdohcgjgknmaaGreatDoorCards
import Derived.ProofKit
import Derived.OpenShut
import Derived.ChangeOld
import Derived.LaidMore
import Derived.Stop.Joined
import Derived.Stop.LaidErr
import Derived.Lib.LaidTab
import Derived.SevenTiedAt
import Derived.Deep.Slices
namespace Go.Proofs.YtajdohcgjgknmaaGreatDoor
set_option maxRecDepth 1000000
set_option maxHeartbeats 4000000
set_option synthInstance.maxHeartbeats 0
set_option synthInstance.maxSize 9999
open Go.RowKit
def Tz42_0 : List Row := [(some 29, [], []), (some 30, [1], []), (some 31, [2], []), (some 32, [30, 31], [1, 2]), (some 33, [29, 32], [0, 3, 0]), (some 28, [33], [4]), (some 34, [28], [5]), (some 35, [28], [5]), (some 4, [], []), (none, [4, 34], [8, 6, 4, 0, 1, 2, 3, 4, 5, 6, 8]), (some 5, [35], [7, 9, 0, 1, 2, 3, 4, 5, 6, 7, 8, 9])]
def Tz42_1 : List Row := [(some 43, [], []), (some 44, [2], []), (some 45, [44], [1]), (some 46, [43, 45], [0, 2, 0]), (some 42, [46], [3]), (some 47, [42], [4]), (some 48, [42], [4]), (some 8, [], []), (none, [8, 47], [7, 5, 3, 0, 1, 2, 3, 4, 5, 7]), (some 9, [48], [6, 8, 0, 1, 2, 3, 4, 5, 6, 7, 8])]
def Tz42_2 : List Row := [(some 55, [8], []), (some 56, [], []), (some 57, [56], [1]), (some 58, [55, 57], [0, 2, 1]), (some 54, [58], [3]), (some 59, [54], [4]), (some 60, [54], [4]), (some 12, [], []), (none, [12, 59], [7, 5, 3, 0, 1, 2, 3, 4, 5, 7]), (some 13, [60], [6, 8, 0, 1, 2, 3, 4, 5, 6, 7, 8])]
def Tz42_3 : List Row := [(some 88, [4], []), (some 89, [], []), (some 90, [], [1]), (some 91, [90], [2]), (some 92, [], [2]), (some 93, [92], [4]), (some 94, [91, 93], [3, 5]), (some 95, [89, 94], [1, 6]), (some 96, [88, 95], [0, 7, 4]), (some 16, [96], [8, 8, 0, 1, 2, 3, 4, 5, 6, 7, 8])]
def Tz42_4 : List Row := [(some 97, [6], []), (some 98, [], []), (some 99, [], [1]), (some 100, [99], [2]), (some 101, [], [2]), (some 102, [101], [4]), (some 103, [3], []), (some 104, [100, 102, 103], [3, 5, 6]), (some 105, [98, 104], [1, 7]), (some 106, [97, 105], [0, 8, 4]), (some 17, [106], [9, 9, 0, 1, 2, 3, 4, 5, 6, 7, 8, 9])]
def Tz42_5 : List Row := [(some 119, [16], []), (some 120, [119], [0]), (some 121, [17, 120], [1]), (some 122, [120, 121], [1, 2]), (some 123, [122], [3, 1]), (some 124, [10, 123], [4]), (some 125, [123], [4, 4]), (some 126, [124, 125, 123], [5, 6, 6, 4]), (some 127, [123, 126], [4, 7]), (some 128, [127], [8, 7]), (some 129, [12, 128], [9]), (some 130, [8, 128], [9]), (some 131, [129, 130, 128], [10, 11, 9, 9]), (some 132, [128, 131], [9, 12]), (some 133, [132], [13, 12]), (some 134, [4, 133], [14]), (some 135, [6, 133], [14]), (some 136, [134, 135, 133], [15, 16, 14, 14]), (some 137, [136, 133], [17, 14]), (some 138, [133, 137], [14, 18]), (some 139, [138], [19, 17]), (some 140, [19, 139], [20]), (some 141, [139, 140], [20, 21]), (some 142, [141], [22, 20]), (some 143, [18, 142], [23]), (some 144, [143, 142], [24, 23]), (some 145, [142, 144], [23, 25]), (some 146, [145], [26, 23]), (some 147, [21, 146], [27]), (some 148, [147, 146], [28, 27]), (some 149, [146, 148], [27, 29]), (some 150, [149], [30, 27]), (some 151, [4, 150], [31]), (some 152, [151, 150], [32, 31, 31]), (some 153, [150, 152], [31, 33]), (some 154, [153], [34, 33]), (some 155, [8, 154], [35]), (some 156, [155, 154], [36, 35, 35]), (some 157, [156, 154], [37, 35]), (some 158, [154, 157], [35, 38]), (some 159, [158], [39, 37]), (some 160, [6, 159], [40]), (some 161, [4, 159], [40]), (some 162, [160, 161, 159], [41, 42, 40, 40]), (some 163, [159, 162], [40, 43]), (some 164, [163], [44, 43]), (some 165, [4, 164], [45]), (some 166, [6, 164], [45]), (some 167, [165, 166, 164], [46, 47, 45, 45]), (some 168, [167, 164], [48, 45]), (some 169, [164, 168], [45, 49]), (some 170, [169], [50, 48]), (some 171, [6, 170], [51]), (some 172, [171, 170], [52, 51, 51]), (some 173, [170, 172], [51, 53]), (some 174, [173], [54, 53]), (some 175, [174], [55]), (some 176, [175, 174], [56, 55, 55]), (some 177, [176, 174], [57, 55]), (some 178, [174, 177], [55, 58]), (some 0, [178], [59, 57, 0, 1, 2, 3, 4, 5, 6, 7, 8, 9, 10, 11, 12, 13, 14, 15, 16, 17, 18, 19, 20, 21, 22, 23, 24, 25, 26, 27, 28, 29, 30, 31, 32, 33, 34, 35, 36, 37, 38, 39, 40, 41, 42, 43, 44, 45, 46, 47, 48, 49, 50, 51, 52, 53, 54, 55, 56, 57, 58, 59])]
theorem PcsS.both {m : Nat} {w : World} {a : Option Addr} {n : Nat} {l : List Prod.Pc} (h : PcsS (fun k => m ≤ k) w a n l) : PcsS (fun k => m ≤ k ∧ k < w.heap.size) w a n l := by
  obtain ⟨rs, h1, h2, h3, h4⟩ := h
  have h9 := PcsAt.now ⟨rs, h1, h2⟩
  refine ⟨rs, h1, h2, fun q ad e => ⟨h3 q ad e, ?_⟩, fun x hx q ad e => ⟨h4 x hx q ad e, ?_⟩⟩
  · obtain ⟨g1, g2, g3⟩ := h1
    rcases g3 with g3 | ⟨b, o, e', hx⟩
    · omega
    · rw [e] at e'; cases e'
      exact World.block_lt_of_cell? _ _ (hx 0 _ (List.getElem?_eq_getElem (by omega))).1
  · obtain ⟨i, hi⟩ := List.getElem?_of_mem hx
    obtain ⟨p, hp, e1, e2, e3, e4⟩ := h2.at hi
    exact aa_lt e4 q ad e
def rowL (bits : Int) : List Int := bits :: List.replicate 23 0
set_option maxHeartbeats 4000000 in
theorem row_c (bits : Int) (w : World) : Calls Tryz.prog 73 #[.int .i64 bits] w (RetA w (rowL bits)) := by
 have hmk := make24
 go_enter Tryz.func73, Tryz.ntmps73
 go_wp2
 refine bodyPost_ret (v := .agg #[.slice (some ⟨w.heap.size + 1, 0, none⟩) 24 24]) (by simp [results, Tryz.results73, go_sem]) rfl ⟨w.heap.size + 1, rfl, by omega, ?_, by (repeat' (first | (with_reducible assumption) | (with_reducible exact Ext.refl _) | (with_reducible refine Ext.alloc ?_ _) | (with_reducible refine Ext.drew ?_) | (with_reducible refine Ext.drewN ?_ _) | (with_reducible refine Ext.setCell ?_ ?_ _) | (with_reducible refine Ext.trans ?_ (by assumption)) | go_size))⟩
 have h9 := RowsAt.new (w.alloc (.cells #[.slice (some ⟨w.heap.size + 1, 0, none⟩) 24 24] 33)) (rowL bits) 3 rfl
 rw [World.size_alloc] at h9
 exact h9.ext (Ext.alloc (Ext.refl _) _)
theorem RetB.eq {w : World} {ok : Bool} {id ver ver' : Int} {ar : List Int} {l l' : List Prod.Pc} {e : Ending} {w' : World} (h : RetB w ok id ver ar l e w') (k : ok = true) (hv : ver = ver') (hl : l = l') : RetPrd w id ver' ar l' e w' := by subst hv hl; exact h.y k
def PcsB (w : World) (b o : Nat) (l : List Prod.Pc) : Prop := ∃ rs, (∀ (i : Nat) x, rs[i]? = some x → RawAt w b (o + i * 4) x) ∧ Reads w rs l
theorem PcsB.nil {w : World} {b o : Nat} : PcsB w b o [] := ⟨[], fun i x h => by simp at h, trivial⟩
theorem PcsB.cons {w : World} {b o o' : Nat} {l : List Prod.Pc} {p : Prod.Pc} {ar : Option Addr} {k c : Nat} (ho : o' = o + 4) (c0 : w.cell? ⟨b, o, none⟩ = some (.int .i64 p.im)) (c1 : w.cell? ⟨b, o + 1, none⟩ = some (.int .i64 p.t)) (c2 : w.cell? ⟨b, o + 2, none⟩ = some (.bool p.cl)) (c3 : w.cell? ⟨b, o + 3, none⟩ = some (.slice ar k c)) (hA : AA w ar p.rw k (Globe.validL p.rw)) (h : PcsB w b o' l) : PcsB w b o (p :: l) := by
 subst ho
 obtain ⟨rs, h1, h2⟩ := h
 refine ⟨⟨p.im, p.t, p.cl, ar, k, c⟩ :: rs, fun i x hx => ?_, ⟨rfl, rfl, rfl, hA⟩, h2⟩
 cases i with
 | zero => simp at hx; subst hx; rw [Nat.zero_mul]; exact ⟨c0, c1, c2, c3⟩
 | succ i =>
  have := h1 i x (by simpa using hx)
  rwa [show o + (i + 1) * 4 = o + 4 + i * 4 by omega]
theorem PcsB.at {w : World} {b n : Nat} {l : List Prod.Pc} (h : PcsB w b 0 l) (hl : l.length = n) (hn : n ≤ 1000) : PcsAt w (some ⟨b, 0, none⟩) n l := by
 obtain ⟨rs, h1, h2⟩ := h
 have := h2.len
 exact ⟨rs, ⟨by omega, by omega, .inr ⟨b, 0, rfl, h1⟩⟩, h2⟩
theorem aa_nil (w : World) : AA w none [] 0 (Globe.validL []) := ⟨.inl rfl, rfl, Nat.zero_le _, rfl⟩
def p4 : Prod.Pc := ⟨4, 100, true, rowL 3⟩
def p5 : Prod.Pc := ⟨5, 200, false, rowL 6⟩
def p6 : Prod.Pc := ⟨6, 300, true, rowL 2⟩
def p7 : Prod.Pc := ⟨7, 150, false, rowL 2⟩
def p5' : Prod.Pc := ⟨5, 200, false, rowL 4⟩
def p4' : Prod.Pc := ⟨4, 100, true, rowL 1⟩
section
variable {w1 w2 w3 w4 : World} {id ver id2 ver2 : Int} {ar ar2 : List Int} {ps qs : List Prod.Pc} {a1 a b1 b : Option Addr} {n1 n m1 m : Nat} {r : Bool}
theorem pSame_r (c1 c d1 d : Nat) (w : World) (hA : AA w1 a1 ar n1 (Globe.validL ar)) (e1 : Ext w1 w) (hP : PcsAt w2 a n ps) (e2 : Ext w2 w) (hB : AA w3 b1 ar2 m1 (Globe.validL ar2)) (e3 : Ext w3 w) (hQ : PcsAt w4 b m qs) (e4 : Ext w4 w) (hr : Prod.sameP id ver ar ps id2 ver2 ar2 qs = r) : Calls Tryz.prog 31 #[.agg #[.int .i64 id, .int .i64 ver, .slice a1 n1 c1, .slice a n c], .agg #[.int .i64 id2, .int .i64 ver2, .slice b1 m1 d1, .slice b m d]] w fun e w' => e = .returned (.bool r) ∧ Ext w w' := hr ▸ pSame_c c1 c d1 d w hA e1 hP e2 hB e3 hQ e4
theorem rpSame_r (c1 c d1 d : Nat) (w : World) (hA : AA w1 a1 ar n1 (Globe.validL ar)) (e1 : Ext w1 w) (hP : PcsAt w2 a n ps) (e2 : Ext w2 w) (hB : AA w3 b1 ar2 m1 (Globe.validL ar2)) (e3 : Ext w3 w) (hQ : PcsAt w4 b m qs) (e4 : Ext w4 w) (hr : Prod.sameP id ver ar ps id2 ver2 ar2 qs = r) : Calls Tryz.prog 32 #[.agg #[.int .i64 id, .int .i64 ver, .slice a1 n1 c1, .slice a n c], .agg #[.int .i64 id2, .int .i64 ver2, .slice b1 m1 d1, .slice b m d]] w fun e w' => e = .returned (.bool r) ∧ Ext w w' := hr ▸ rpSame_c c1 c d1 d w hA e1 hP e2 hB e3 hQ e4
theorem Over_r (c1 d1 : Nat) {c d : Nat} (w : World) (hnc : n ≤ c) (hmd : m ≤ d) (hA : AA w1 a1 ar n1 (Globe.validL ar)) (e1 : Ext w1 w) (hP : PcsAt w2 a n ps) (e2 : Ext w2 w) (hB : AA w3 b1 ar2 m1 (Globe.validL ar2)) (e3 : Ext w3 w) (hQ : PcsAt w4 b m qs) (e4 : Ext w4 w) (hT : Tab w) (hr : Prod.overB id ver ar ps id2 ver2 ar2 qs = r) : Calls Tryz.prog 33 #[.agg #[.int .i64 id, .int .i64 ver, .slice a1 n1 c1, .slice a n c], .agg #[.int .i64 id2, .int .i64 ver2, .slice b1 m1 d1, .slice b m d]] w fun e w' => e = .returned (.bool r) ∧ Ext w w' := hr ▸ Over_c c1 d1 w hnc hmd hA e1 hP e2 hB e3 hQ e4 hT
theorem Complete_r (c1 : Nat) {c : Nat} (w : World) (hnc : n ≤ c) (hA : AA w1 a1 ar n1 (Globe.validL ar)) (e1 : Ext w1 w) (hP : PcsAt w2 a n ps) (e2 : Ext w2 w) (hT : Tab w) (hr : (Prod.validP id ver ar ps && Prod.noC (Prod.rest ar ps)) = r) : Calls Tryz.prog 17 #[.agg #[.int .i64 id, .int .i64 ver, .slice a1 n1 c1, .slice a n c]] w fun e w' => e = .returned (.bool r) ∧ Ext w w' := hr ▸ Complete_c c1 w hnc hA e1 hP e2 hT
end
theorem sane_c (w : World) (hT : Tab w) : Calls Tryz.prog 21 #[] w fun e w' => e = .returned (.bool true) ∧ Ext w w' := by
 refine calls_cw 179 [] Tryz.func21 rfl Tryz.ntmps21 (by kernel_rfl) (by kernel_rfl) (fun L => ?_);have hE := Ext.refl w;refine zc (zp (pT (.bool false) ?_));refine zn (zc (zp (pS (sc 73 #[iv 3] ((row_c 3 _).mono ?_)))));rintro e w4 ⟨B1, rfl, hn2, hr3, hb⟩;replace hE := hE.trans hb;have Jp := hb.size;have J6 := hr3.va (show Globe.validL (rowL 3) = true by kernel_rfl);have lt6 := J6.lt;refine ⟨_, rfl, pT (.agg #[iv 4, iv 100, .bool true, sv B1 0 24 24]) ?_⟩;refine pS (sw 49 #[iv 0, iv 0, .bool false, .slice none 0 0] ?_);intro O7 X8 B3t Bab hb hbx;have ⟨K4, Lb, L9, L6⟩ := bq4 hbx;refine mv2 hb hE J6 fun hE J6=>?_;have Ju := hb.size;have B9g := K4.lt;refine pP (zG O7 (iv 4) (iv 100) (.bool true) (sv B1 0 24 24) (st49 K4.1 K4.2 Lb.1 Lb.2 L9.1 L9.2 L6.1 L6.2) K4 Lb L9 L6 ?_);intro X11 ho K4 Lb L9 L6 hk;replace hE := ho.ext hE (T Jp (Nat.le_of_eq B3t));replace J6 := ho.va (by omega) J6;have E2 := Nat.le_of_eq ho.size.symm;clear ho hk;refine pl_nil (qw_then ?_);refine cw_seq ?_;have N7 := Ext.refl X11;refine zp (pS (sc 73 #[iv 6] ((row_c 6 _).mono ?_)));rintro e w17 ⟨Mf, rfl, Bau, B5a, hb⟩;refine mv2 hb hE N7 fun hE N7=>?_;have Du := hb.size;have Cp := B5a.va (show Globe.validL (rowL 6) = true by kernel_rfl);have B5y := Cp.lt;refine ⟨_, rfl, pT (.agg #[iv 5, iv 200, .bool false, sv Mf 0 24 24]) ?_⟩;refine pS (sw 49 #[iv 0, iv 0, .bool false, .slice none 0 0] ?_);intro Qn X21 Sm B8d hb hbx;have ⟨Gb, Ic, I9, Hu⟩ := bq4 hbx;refine mv3 hb hE N7 Cp fun hE N7 Cp=>?_;have Eb := hb.size;have B9w := Gb.lt;refine pP (zG Qn (iv 5) (iv 200) (.bool false) (sv Mf 0 24 24) (st49 Gb.1 Gb.2 Ic.1 Ic.2 I9.1 I9.2 Hu.1 Hu.2) Gb Ic I9 Hu ?_);intro X24 ho Gb Ic I9 Hu hk;replace hE := ho.ext hE (by omega);replace N7 := ho.ext N7 (T Du (Nat.le_of_eq Sm));replace Cp := ho.va (by omega) Cp;have E8 := Nat.le_of_eq ho.size.symm;clear ho hk;refine pl_nil (qw_then ?_);refine cw_seq ?_;have Fj := Ext.refl X24;refine zp (pS (sc 73 #[iv 2] ((row_c 2 _).mono ?_)));rintro e w30 ⟨We, rfl, Bb1, B4b, hb⟩;refine mv2 hb hE Fj fun hE Fj=>?_;have E3 := hb.size;have K7 := B4b.va (show Globe.validL (rowL 2) = true by kernel_rfl);have B56 := K7.lt;refine ⟨_, rfl, pT (.agg #[iv 6, iv 300, .bool true, sv We 0 24 24]) ?_⟩;refine pS (sw 49 #[iv 0, iv 0, .bool false, .slice none 0 0] ?_);intro Jt X34 Qc B8f hb hbx;have ⟨G7, Hz, I5, Ig⟩ := bq4 hbx;refine mv3 hb hE Fj K7 fun hE Fj K7=>?_;have Ef := hb.size;have Ba8 := G7.lt;refine pP (zG Jt (iv 6) (iv 300) (.bool true) (sv We 0 24 24) (st49 G7.1 G7.2 Hz.1 Hz.2 I5.1 I5.2 Ig.1 Ig.2) G7 Hz I5 Ig ?_);intro Sn ho G7 Hz I5 Ig hk;replace hE := ho.ext hE (by omega);replace Fj := ho.ext Fj (T E3 (Nat.le_of_eq Qc));replace K7 := ho.va (by omega) K7;have Ee := Nat.le_of_eq ho.size.symm;clear ho hk;refine pl_nil (qw_then ?_);refine cw_seq ?_;have B2 := Ext.refl Sn;have Jo := N7.trans Fj;refine cw_join (fun ws' Y => ∃ P7 Kk : Nat, ∃ Jn Km Kv : Nat, ∃ Jz : Option Addr, ∃ Kd Kn J2 : Nat, ws' = [(2, pw Qn 0), (3, pw Jt 0), (4, pw J2 0), (5, iv 0)] ∧ Ext w Y ∧ Ext Sn Y ∧ VA Y P7 0 (rowL 7) ∧ BoxAt Y Kk 0 (iv 4) ∧ BoxAt Y Kk 1 (iv 100) ∧ BoxAt Y Kk 2 (.bool true) ∧ BoxAt Y Kk 3 (sv B1 0 24 24) ∧ BoxAt Y Kk 4 (iv 5) ∧ BoxAt Y Kk 5 (iv 200) ∧ BoxAt Y Kk 6 (.bool false) ∧ BoxAt Y Kk 7 (sv Mf 0 24 24) ∧ Kd ≤ Kn ∧ Pl Jz ∧ VA Y Jn Km (rowL 7) ∧ PcsAt Y Jz Kd ([p5', p4]) ∧ BoxAt Y J2 0 (iv 1) ∧ BoxAt Y J2 1 (iv 1) ∧ BoxAt Y J2 2 (sv Jn Km 24 Kv) ∧ BoxAt Y J2 3 (.slice Jz Kd Kn) ∧ Sn.heap.size ≤ Y.heap.size ∧ Sn.heap.size ≤ P7 ∧ Sn.heap.size ≤ Kk ∧ Sn.heap.size ≤ Jn ∧ Sn.heap.size ≤ J2 ∧ Hid (P7 ≠ Kk) ∧ Hid (P7 ≠ Jn) ∧ Hid (P7 ≠ J2) ∧ Hid (Kk ≠ Jn) ∧ Hid (Kk ≠ J2) ∧ Hid (Jn ≠ J2)) (fun hJ => ?_) ?_
 ·
  refine dE Tz42_0 (fun w' => Ext Sn w') (Ext.drew (Ext.refl _)) (fun ops Q X41 hb hL hR hK => ?_);refine mv2 hb hE B2 fun hE B2=>?_;have Bx := hb.size;refine wM 1 (.agg #[iv 4, iv 100, .bool true, sv B1 0 24 24]) hR (fun w hS => ld49 (K4.c (Jo.trans hS)) (Lb.c (Jo.trans hS)) (L9.c (Jo.trans hS)) (L6.c (Jo.trans hS))) B2 ?_;refine wM 2 (.agg #[iv 5, iv 200, .bool false, sv Mf 0 24 24]) hR (fun w hS => ld49 (Gb.c (Fj.trans hS)) (Ic.c (Fj.trans hS)) (I9.c (Fj.trans hS)) (Hu.c (Fj.trans hS))) B2 ?_;refine wd_three 0 3 8 hR rfl rfl rfl (by kernel_rfl) (by kernel_rfl) (by kernel_rfl) (by kernel_rfl) (by kernel_rfl) ?_ ?_ ?_
  ·
   refine sc 73 #[iv 7] ((row_c 7 _).mono ?_);rintro e w46 ⟨P7, rfl, Ws, B4m, hb⟩;refine mv2 hb hE B2 fun hE B2=>?_;have G5 := hb.size;have C1 := B4m.va (show Globe.validL (rowL 7) = true by kernel_rfl);have Jq := C1.lt;refine ⟨_, rfl, B2, ?_⟩;refine zw 3 8 hR ?_ ?_
   ·
    refine sn_newS (us := #[iv 4, iv 100, .bool true, sv B1 0 24 24, iv 5, iv 200, .bool false, sv Mf 0 24 24]) (t := 49) (k := 2) (c := 2) (by kernel_rfl) ?_;intro Kk X50 Nr B9d hb hbx;have ⟨C7, Cd, Cf, Cn, Cl, Ci, Co, Cg⟩ := bq8 hbx;refine mv3 hb hE B2 C1 fun hE B2 C1=>?_;have Hj := hb.size;have Q8 := C7.lt;refine ⟨B2, ?_⟩;refine zw 4 8 hR ?_ ?_
    ·
     have B2z : PcsAt X50 (some ⟨Kk, 0, none⟩) 2 [p4, p5] := PcsB.at (PcsB.cons (p := p4) (o := 0) (o' := 4) rfl (C7.1) (Cd.1) (Cf.1) (Cn.1) (AA.ext (aa_q (J6.aa)) (Jo.trans B2)) (PcsB.cons (p := p5) (o := 4) (o' := 8) rfl (Cl.1) (Ci.1) (Co.1) (Cg.1) (AA.ext (aa_q (Cp.aa)) (Fj.trans B2)) PcsB.nil)) rfl (by omega);refine sc 13 #[iv 1, .agg #[sv P7 0 24 24], sv Kk 0 2 2] (((Build_c (id := 1) _ _ (by omega) (aa_q (C1.aa)) (Ext.refl _) B2z (Ext.refl _) (hT.ext hE)).mono fun _ _ h => h.eq (by kernel_rfl) rfl (show _ = [p5', p4] by kernel_rfl)).mono ?_);rintro e w68 ⟨a54, n55, Kv, Jz, Kd, Kn, rfl, B5x, B0j, B64, Ui, Sc, hb⟩;refine mv9 hb hE B2 C1 C7 Cd Cf Cn Cl Ci fun hE B2 C1 C7 Cd Cf Cn Cl Ci=>?_;refine mv2 hb Co Cg fun Co Cg=>?_;have Ma := hb.size;obtain ⟨Jn, Km, rfl, rfl, Iv⟩ := va_of B5x (by kernel_rfl);have N8 := B0j _ rfl;have Zv := Iv.lt;have M7 : PcsS (fun k => X50.heap.size ≤ k ∧ k < w68.heap.size) w68 Jz Kd ([p5', p4]) := PcsS.both B64;refine ⟨_, rfl, B2, ?_⟩;refine wW 5 (.tuple #[.agg #[iv 1, iv 1, sv Jn Km 24 Kv, .slice Jz Kd Kn], iv 0]) 6 (.agg #[iv 1, iv 1, sv Jn Km 24 Kv, .slice Jz Kd Kn]) hR B2 ?_;refine wV 7 (iv 0) hR B2 ?_;refine wN 8 53 #[iv 0, iv 0, .slice none 0 0, .slice none 0 0] hR ?_;intro J2 X72 Ho B8s hb hbx;have ⟨Cv, Db, D9, Da⟩ := bq4 hbx;refine mv12 hb hE B2 C1 C7 Cd Cf Cn Cl Ci Co Cg Iv fun hE B2 C1 C7 Cd Cf Cn Cl Ci Co Cg Iv=>?_;replace M7 := M7.ext hb;have B4q := hb.size;have Bbk := Cv.lt;refine ⟨B2, ?_⟩;refine wS 9 hR (sn_setK4 (O := J2) (j := 0) (v0 := iv 1) (v1 := iv 1) (v2 := sv Jn Km 24 Kv) (v3 := .slice Jz Kd Kn) (ex_store (p := pw J2 0) (v := .agg #[iv 1, iv 1, sv Jn Km 24 Kv, .slice Jz Kd Kn]) rfl (by kernel_rfl) (by kernel_rfl) (st53 Cv.1 Cv.2 Db.1 Db.2 D9.1 D9.2 Da.1 Da.2)) Cv Db D9 Da ?_);intro X75 ho Cv Db D9 Da hk;replace hE := ho.ext hE (by omega);replace B2 := ho.ext B2 (by omega);replace C1 := ho.va (by omega) C1;have q9 := ho.bx Kk (by omega);replace C7 := q9 C7;replace Cd := q9 Cd;replace Cf := q9 Cf;replace Cn := q9 Cn;replace Cl := q9 Cl;replace Ci := q9 Ci;replace Co := q9 Co;replace Cg := q9 Cg;clear q9;replace Iv := ho.va (by omega) Iv;replace M7 := M7.turn ho (fun h => absurd h.2 (Nat.not_lt_of_le (Nat.le_of_eq Ho)));have B4t := Nat.le_of_eq ho.size.symm;clear ho hk;refine ⟨B2, ?_⟩;refine wV 10 (iv 0) hR B2 ?_;refine we hL hR hK ?_;have Jg := PcsS.pcs M7;have B5f := Ext.refl X75;exact zl hJ [2, 3, 4, 5] ⟨P7, Kk, Jn, Km, Kv, Jz, Kd, Kn, J2, rfl, hE, (B2.trans B5f), C1, C7, Cd, Cf, Cn, Cl, Ci, Co, Cg, Ui, Sc, Iv, Jg, Cv, Db, D9, Da, (T Bx (T G5 (T Hj (T Ma (T B4q B4t))))), (T Bx Ws), (T (T Bx G5) (Nat.le_of_eq Nr)), (T (T Bx (T G5 Hj)) N8), (by omega), Lib.hid (by omega), Lib.hid (Nat.ne_of_lt (Nat.lt_of_lt_of_le Jq (T Hj N8))), Lib.hid (by omega), Lib.hid (Nat.ne_of_lt (Nat.lt_of_lt_of_le Q8 N8)), Lib.hid (by omega), Lib.hid (by omega)⟩
    ·
     refine sw 53 #[iv 0, iv 0, .slice none 0 0, .slice none 0 0] ?_;intro O79 X80 Kj B86 hb hbx;have ⟨Fz, Gg, Ge, Ga⟩ := bq4 hbx;refine mv9 hb hE B2 C1 C7 Cd Cf Cn Cl Ci fun hE B2 C1 C7 Cd Cf Cn Cl Ci=>?_;refine mv2 hb Co Cg fun Co Cg=>?_;have U2 := hb.size;have Wv := Fz.lt;refine ⟨B2, ?_⟩;have B3q : PcsAt X80 (some ⟨Kk, 0, none⟩) 2 [p4, p5] := PcsB.at (PcsB.cons (p := p4) (o := 0) (o' := 4) rfl (C7.1) (Cd.1) (Cf.1) (Cn.1) (AA.ext (aa_q (J6.aa)) (Jo.trans B2)) (PcsB.cons (p := p5) (o := 4) (o' := 8) rfl (Cl.1) (Ci.1) (Co.1) (Cg.1) (AA.ext (aa_q (Cp.aa)) (Fj.trans B2)) PcsB.nil)) rfl (by omega);refine wC 4 13 #[iv 1, .agg #[sv P7 0 24 24], sv Kk 0 2 2] hR (((Build_c (id := 1) _ _ (by omega) (aa_q (C1.aa)) (Ext.refl _) B3q (Ext.refl _) (hT.ext hE)).mono fun _ _ h => h.eq (by kernel_rfl) rfl (show _ = [p5', p4] by kernel_rfl)).mono ?_);rintro e w98 ⟨a84, n85, k86, Yo, Yn, Zw, rfl, B4y, Zy, B4s, B33, Zz, hb⟩;refine mv12 hb hE B2 C1 C7 Cd Cf Cn Cl Ci Co Cg Fz fun hE B2 C1 C7 Cd Cf Cn Cl Ci Co Cg Fz=>?_;refine mv3 hb Gg Ge Ga fun Gg Ge Ga=>?_;have B5b := hb.size;obtain ⟨b95, o96, rfl, rfl, Ub⟩ := va_of B4y (by kernel_rfl);have K5 := Zy _ rfl;have B8c := Ub.lt;have Sa : PcsS (fun k => X80.heap.size ≤ k ∧ k < w98.heap.size) w98 Yo Yn ([p5', p4]) := PcsS.both B4s;refine ⟨_, rfl, B2, ?_⟩;refine wW 5 (.tuple #[.agg #[iv 1, iv 1, sv b95 o96 24 k86, .slice Yo Yn Zw], iv 0]) 6 (.agg #[iv 1, iv 1, sv b95 o96 24 k86, .slice Yo Yn Zw]) hR B2 ?_;refine wV 7 (iv 0) hR B2 ?_;refine wS 9 hR (sn_setK4 (O := O79) (j := 0) (v0 := iv 1) (v1 := iv 1) (v2 := sv b95 o96 24 k86) (v3 := .slice Yo Yn Zw) (ex_store (p := pw O79 0) (v := .agg #[iv 1, iv 1, sv b95 o96 24 k86, .slice Yo Yn Zw]) rfl (by kernel_rfl) (by kernel_rfl) (st53 Fz.1 Fz.2 Gg.1 Gg.2 Ge.1 Ge.2 Ga.1 Ga.2)) Fz Gg Ge Ga ?_);intro Vy ho Fz Gg Ge Ga hk;replace hE := ho.ext hE (by omega);replace B2 := ho.ext B2 (T (T Bx (T G5 Hj)) (Nat.le_of_eq Kj));replace C1 := ho.va (by omega) C1;have q9 := ho.bx Kk (by omega);replace C7 := q9 C7;replace Cd := q9 Cd;replace Cf := q9 Cf;replace Cn := q9 Cn;replace Cl := q9 Cl;replace Ci := q9 Ci;replace Co := q9 Co;replace Cg := q9 Cg;clear q9;replace Ub := ho.va (Nat.ne_of_lt (Nat.lt_of_lt_of_le Wv K5)) Ub;replace Sa := Sa.turn ho (fun h => absurd h.1 (Nat.not_le_of_lt (Nat.lt_of_lt_of_le Wv (Nat.le_refl _))));have B06 := Nat.le_of_eq ho.size.symm;clear ho hk;refine ⟨B2, ?_⟩;refine wV 10 (iv 0) hR B2 ?_;refine we hL hR hK ?_;have Vu := PcsS.pcs Sa;have B3b := Ext.refl Vy;exact zl hJ [2, 3, 4, 5] ⟨P7, Kk, b95, o96, k86, Yo, Yn, Zw, O79, rfl, hE, (B2.trans B3b), C1, C7, Cd, Cf, Cn, Cl, Ci, Co, Cg, B33, Zz, Ub, Vu, Fz, Gg, Ge, Ga, (T Bx (T G5 (T Hj (T U2 (T B5b B06))))), (T Bx Ws), (T (T Bx G5) (Nat.le_of_eq Nr)), (T (T Bx (T G5 (T Hj U2))) K5), (T (T Bx (T G5 Hj)) (Nat.le_of_eq Kj)), Lib.hid (by omega), Lib.hid (Nat.ne_of_lt (Nat.lt_of_lt_of_le Jq (T (T Hj U2) K5))), Lib.hid (by omega), Lib.hid (Nat.ne_of_lt (Nat.lt_of_lt_of_le Q8 (T U2 K5))), Lib.hid (by omega), Lib.hid (Nat.ne_of_gt (Nat.lt_of_lt_of_le Wv K5))⟩
   ·
    refine sw 53 #[iv 0, iv 0, .slice none 0 0, .slice none 0 0] ?_;intro U8 Bax K1 B4l hb hbx;have ⟨D2, Dr, Df, Dn⟩ := bq4 hbx;refine mv3 hb hE B2 C1 fun hE B2 C1=>?_;have Mc := hb.size;have Mj := D2.lt;refine ⟨B2, ?_⟩;refine wS 3 hR (sn_newS (us := #[iv 4, iv 100, .bool true, sv B1 0 24 24, iv 5, iv 200, .bool false, sv Mf 0 24 24]) (t := 49) (k := 2) (c := 2) (by kernel_rfl) ?_);intro U4 B01 Li B4z hb hbx;have ⟨Fm, H7, Gl, H8, Gj, Hb, Hc, Gx⟩ := bq8 hbx;refine mv7 hb hE B2 C1 D2 Dr Df Dn fun hE B2 C1 D2 Dr Df Dn=>?_;have Ko := hb.size;have B19 := Fm.lt;refine ⟨B2, ?_⟩;have V7 : PcsAt B01 (some ⟨U4, 0, none⟩) 2 [p4, p5] := PcsB.at (PcsB.cons (p := p4) (o := 0) (o' := 4) rfl (Fm.1) (H7.1) (Gl.1) (H8.1) (AA.ext (aa_q (J6.aa)) (Jo.trans B2)) (PcsB.cons (p := p5) (o := 4) (o' := 8) rfl (Gj.1) (Hb.1) (Hc.1) (Gx.1) (AA.ext (aa_q (Cp.aa)) (Fj.trans B2)) PcsB.nil)) rfl (by omega);refine wC 4 13 #[iv 1, .agg #[sv P7 0 24 24], sv U4 0 2 2] hR (((Build_c (id := 1) _ _ (by omega) (aa_q (C1.aa)) (Ext.refl _) V7 (Ext.refl _) (hT.ext hE)).mono fun _ _ h => h.eq (by kernel_rfl) rfl (show _ = [p5', p4] by kernel_rfl)).mono ?_);rintro e Wo ⟨B9r, B9k, Qf, Pv, P3, Se, rfl, B1c, Xo, B1j, Wa, Y1, hb⟩;refine mv12 hb hE B2 C1 D2 Dr Df Dn Fm H7 Gl H8 Gj fun hE B2 C1 D2 Dr Df Dn Fm H7 Gl H8 Gj=>?_;refine mv3 hb Hb Hc Gx fun Hb Hc Gx=>?_;have B12 := hb.size;obtain ⟨R8, Qs, rfl, rfl, Ni⟩ := va_of B1c (by kernel_rfl);have Il := Xo _ rfl;have B6q := Ni.lt;have N5 : PcsS (fun k => B01.heap.size ≤ k ∧ k < Wo.heap.size) Wo Pv P3 ([p5', p4]) := PcsS.both B1j;refine ⟨_, rfl, B2, ?_⟩;refine wW 5 (.tuple #[.agg #[iv 1, iv 1, sv R8 Qs 24 Qf, .slice Pv P3 Se], iv 0]) 6 (.agg #[iv 1, iv 1, sv R8 Qs 24 Qf, .slice Pv P3 Se]) hR B2 ?_;refine wV 7 (iv 0) hR B2 ?_;refine wS 9 hR (sn_setK4 (O := U8) (j := 0) (v0 := iv 1) (v1 := iv 1) (v2 := sv R8 Qs 24 Qf) (v3 := .slice Pv P3 Se) (ex_store (p := pw U8 0) (v := .agg #[iv 1, iv 1, sv R8 Qs 24 Qf, .slice Pv P3 Se]) rfl (by kernel_rfl) (by kernel_rfl) (st53 D2.1 D2.2 Dr.1 Dr.2 Df.1 Df.2 Dn.1 Dn.2)) D2 Dr Df Dn ?_);intro Wf ho D2 Dr Df Dn hk;replace hE := ho.ext hE (by omega);replace B2 := ho.ext B2 (T (T Bx G5) (Nat.le_of_eq K1));replace C1 := ho.va (by omega) C1;have q9 := ho.bx U4 (by omega);replace Fm := q9 Fm;replace H7 := q9 H7;replace Gl := q9 Gl;replace H8 := q9 H8;replace Gj := q9 Gj;replace Hb := q9 Hb;replace Hc := q9 Hc;replace Gx := q9 Gx;clear q9;replace Ni := ho.va (Nat.ne_of_lt (Nat.lt_of_lt_of_le Mj (T Ko Il))) Ni;replace N5 := N5.turn ho (fun h => absurd h.1 (Nat.not_le_of_lt (Nat.lt_of_lt_of_le Mj Ko)));have B25 := Nat.le_of_eq ho.size.symm;clear ho hk;refine ⟨B2, ?_⟩;refine wV 10 (iv 0) hR B2 ?_;refine we hL hR hK ?_;have Us := PcsS.pcs N5;have B2a := Ext.refl Wf;exact zl hJ [2, 3, 4, 5] ⟨P7, U4, R8, Qs, Qf, Pv, P3, Se, U8, rfl, hE, (B2.trans B2a), C1, Fm, H7, Gl, H8, Gj, Hb, Hc, Gx, Wa, Y1, Ni, Us, D2, Dr, Df, Dn, (T Bx (T G5 (T Mc (T Ko (T B12 B25))))), (T Bx Ws), (T (T Bx (T G5 Mc)) (Nat.le_of_eq Li)), (T (T Bx (T G5 (T Mc Ko))) Il), (T (T Bx G5) (Nat.le_of_eq K1)), Lib.hid (by omega), Lib.hid (Nat.ne_of_lt (Nat.lt_of_lt_of_le Jq (T (T Mc Ko) Il))), Lib.hid (by omega), Lib.hid (Nat.ne_of_lt (Nat.lt_of_lt_of_le B19 Il)), Lib.hid (by omega), Lib.hid (Nat.ne_of_gt (Nat.lt_of_lt_of_le Mj (T Ko Il)))⟩
  ·
   refine sn_newS (us := #[iv 4, iv 100, .bool true, sv B1 0 24 24, iv 5, iv 200, .bool false, sv Mf 0 24 24]) (t := 49) (k := 2) (c := 2) (by kernel_rfl) ?_;intro Jm B9j Mx B4e hb hbx;have ⟨Bb, Bh, Be, Bk, Bc, Bj, Bl, Bi⟩ := bq8 hbx;refine mv2 hb hE B2 fun hE B2=>?_;have D5 := hb.size;have G1 := Bb.lt;refine ⟨B2, ?_⟩;refine zw 0 8 hR ?_ ?_
   ·
    refine sc 73 #[iv 7] ((row_c 7 _).mono ?_);rintro e Zd ⟨U5, rfl, Nc, B2m, hb⟩;refine mv9 hb hE B2 Bb Bh Be Bk Bc Bj Bl fun hE B2 Bb Bh Be Bk Bc Bj Bl=>?_;replace Bi := Bi.x hb;have Dw := hb.size;have Ch := B2m.va (show Globe.validL (rowL 7) = true by kernel_rfl);have L8 := Ch.lt;refine ⟨_, rfl, B2, ?_⟩;refine zw 4 8 hR ?_ ?_
    ·
     have Xs : PcsAt Zd (some ⟨Jm, 0, none⟩) 2 [p4, p5] := PcsB.at (PcsB.cons (p := p4) (o := 0) (o' := 4) rfl (Bb.1) (Bh.1) (Be.1) (Bk.1) (AA.ext (aa_q (J6.aa)) (Jo.trans B2)) (PcsB.cons (p := p5) (o := 4) (o' := 8) rfl (Bc.1) (Bj.1) (Bl.1) (Bi.1) (AA.ext (aa_q (Cp.aa)) (Fj.trans B2)) PcsB.nil)) rfl (by omega);refine sc 13 #[iv 1, .agg #[sv U5 0 24 24], sv Jm 0 2 2] (((Build_c (id := 1) _ _ (by omega) (aa_q (Ch.aa)) (Ext.refl _) Xs (Ext.refl _) (hT.ext hE)).mono fun _ _ h => h.eq (by kernel_rfl) rfl (show _ = [p5', p4] by kernel_rfl)).mono ?_);rintro e B3j ⟨B9e, Bbc, S4, Pp, Py, Ro, rfl, B1o, Xg, Zj, Vf, Y2, hb⟩;refine mv9 hb hE B2 Bb Bh Be Bk Bc Bj Bl fun hE B2 Bb Bh Be Bk Bc Bj Bl=>?_;refine mv2 hb Bi Ch fun Bi Ch=>?_;have Jh := hb.size;obtain ⟨Qr, Rw, rfl, rfl, Kz⟩ := va_of B1o (by kernel_rfl);have M2 := Xg _ rfl;have Un := Kz.lt;have Jy : PcsS (fun k => Zd.heap.size ≤ k ∧ k < B3j.heap.size) B3j Pp Py ([p5', p4]) := PcsS.both Zj;refine ⟨_, rfl, B2, ?_⟩;refine wW 5 (.tuple #[.agg #[iv 1, iv 1, sv Qr Rw 24 S4, .slice Pp Py Ro], iv 0]) 6 (.agg #[iv 1, iv 1, sv Qr Rw 24 S4, .slice Pp Py Ro]) hR B2 ?_;refine wV 7 (iv 0) hR B2 ?_;refine wN 8 53 #[iv 0, iv 0, .slice none 0 0, .slice none 0 0] hR ?_;intro Su B5t Fc B5p hb hbx;have ⟨Fp, Gp, Ha, Gu⟩ := bq4 hbx;refine mv12 hb hE B2 Bb Bh Be Bk Bc Bj Bl Bi Ch Kz fun hE B2 Bb Bh Be Bk Bc Bj Bl Bi Ch Kz=>?_;replace Jy := Jy.ext hb;have Zh := hb.size;have B8y := Fp.lt;refine ⟨B2, ?_⟩;refine wS 9 hR (sn_setK4 (O := Su) (j := 0) (v0 := iv 1) (v1 := iv 1) (v2 := sv Qr Rw 24 S4) (v3 := .slice Pp Py Ro) (ex_store (p := pw Su 0) (v := .agg #[iv 1, iv 1, sv Qr Rw 24 S4, .slice Pp Py Ro]) rfl (by kernel_rfl) (by kernel_rfl) (st53 Fp.1 Fp.2 Gp.1 Gp.2 Ha.1 Ha.2 Gu.1 Gu.2)) Fp Gp Ha Gu ?_);intro Wh ho Fp Gp Ha Gu hk;replace hE := ho.ext hE (by omega);replace B2 := ho.ext B2 (by omega);have q9 := ho.bx Jm (by omega);replace Bb := q9 Bb;replace Bh := q9 Bh;replace Be := q9 Be;replace Bk := q9 Bk;replace Bc := q9 Bc;replace Bj := q9 Bj;replace Bl := q9 Bl;replace Bi := q9 Bi;clear q9;replace Ch := ho.va (by omega) Ch;replace Kz := ho.va (by omega) Kz;replace Jy := Jy.turn ho (fun h => absurd h.2 (Nat.not_lt_of_le (Nat.le_of_eq Fc)));have B0b := Nat.le_of_eq ho.size.symm;clear ho hk;refine ⟨B2, ?_⟩;refine wV 10 (iv 0) hR B2 ?_;refine we hL hR hK ?_;have Yd := PcsS.pcs Jy;have B0k := Ext.refl Wh;exact zl hJ [2, 3, 4, 5] ⟨U5, Jm, Qr, Rw, S4, Pp, Py, Ro, Su, rfl, hE, (B2.trans B0k), Ch, Bb, Bh, Be, Bk, Bc, Bj, Bl, Bi, Vf, Y2, Kz, Yd, Fp, Gp, Ha, Gu, (T Bx (T D5 (T Dw (T Jh (T Zh B0b))))), (T (T Bx D5) Nc), (T Bx (Nat.le_of_eq Mx)), (T (T Bx (T D5 Dw)) M2), (by omega), Lib.hid (by omega), Lib.hid (Nat.ne_of_lt (Nat.lt_of_lt_of_le L8 M2)), Lib.hid (by omega), Lib.hid (Nat.ne_of_lt (Nat.lt_of_lt_of_le G1 (T Dw M2))), Lib.hid (by omega), Lib.hid (by omega)⟩
    ·
     refine sw 53 #[iv 0, iv 0, .slice none 0 0, .slice none 0 0] ?_;intro U6 B1a I4 B4f hb hbx;have ⟨E6, F6, F9, Ey⟩ := bq4 hbx;refine mv9 hb hE B2 Bb Bh Be Bk Bc Bj Bl fun hE B2 Bb Bh Be Bk Bc Bj Bl=>?_;refine mv2 hb Bi Ch fun Bi Ch=>?_;have Nh := hb.size;have R7 := E6.lt;refine ⟨B2, ?_⟩;have Wt : PcsAt B1a (some ⟨Jm, 0, none⟩) 2 [p4, p5] := PcsB.at (PcsB.cons (p := p4) (o := 0) (o' := 4) rfl (Bb.1) (Bh.1) (Be.1) (Bk.1) (AA.ext (aa_q (J6.aa)) (Jo.trans B2)) (PcsB.cons (p := p5) (o := 4) (o' := 8) rfl (Bc.1) (Bj.1) (Bl.1) (Bi.1) (AA.ext (aa_q (Cp.aa)) (Fj.trans B2)) PcsB.nil)) rfl (by omega);refine wC 4 13 #[iv 1, .agg #[sv U5 0 24 24], sv Jm 0 2 2] hR (((Build_c (id := 1) _ _ (by omega) (aa_q (Ch.aa)) (Ext.refl _) Wt (Ext.refl _) (hT.ext hE)).mono fun _ _ h => h.eq (by kernel_rfl) rfl (show _ = [p5', p4] by kernel_rfl)).mono ?_);rintro e X5 ⟨Ba4, Bbp, Ru, Pa, Pz, R6, rfl, B09, Xk, B2e, Vx, Vp, hb⟩;refine mv12 hb hE B2 Bb Bh Be Bk Bc Bj Bl Bi Ch E6 fun hE B2 Bb Bh Be Bk Bc Bj Bl Bi Ch E6=>?_;refine mv3 hb F6 F9 Ey fun F6 F9 Ey=>?_;have B04 := hb.size;obtain ⟨Sg, S8, rfl, rfl, Nf⟩ := va_of B09 (by kernel_rfl);have Iz := Xk _ rfl;have B69 := Nf.lt;have Mu : PcsS (fun k => B1a.heap.size ≤ k ∧ k < X5.heap.size) X5 Pa Pz ([p5', p4]) := PcsS.both B2e;refine ⟨_, rfl, B2, ?_⟩;refine wW 5 (.tuple #[.agg #[iv 1, iv 1, sv Sg S8 24 Ru, .slice Pa Pz R6], iv 0]) 6 (.agg #[iv 1, iv 1, sv Sg S8 24 Ru, .slice Pa Pz R6]) hR B2 ?_;refine wV 7 (iv 0) hR B2 ?_;refine wS 9 hR (sn_setK4 (O := U6) (j := 0) (v0 := iv 1) (v1 := iv 1) (v2 := sv Sg S8 24 Ru) (v3 := .slice Pa Pz R6) (ex_store (p := pw U6 0) (v := .agg #[iv 1, iv 1, sv Sg S8 24 Ru, .slice Pa Pz R6]) rfl (by kernel_rfl) (by kernel_rfl) (st53 E6.1 E6.2 F6.1 F6.2 F9.1 F9.2 Ey.1 Ey.2)) E6 F6 F9 Ey ?_);intro Xr ho E6 F6 F9 Ey hk;replace hE := ho.ext hE (by omega);replace B2 := ho.ext B2 (T (T Bx (T D5 Dw)) (Nat.le_of_eq I4));have q9 := ho.bx Jm (by omega);replace Bb := q9 Bb;replace Bh := q9 Bh;replace Be := q9 Be;replace Bk := q9 Bk;replace Bc := q9 Bc;replace Bj := q9 Bj;replace Bl := q9 Bl;replace Bi := q9 Bi;clear q9;replace Ch := ho.va (by omega) Ch;replace Nf := ho.va (Nat.ne_of_lt (Nat.lt_of_lt_of_le R7 Iz)) Nf;replace Mu := Mu.turn ho (fun h => absurd h.1 (Nat.not_le_of_lt (Nat.lt_of_lt_of_le R7 (Nat.le_refl _))));have Zk := Nat.le_of_eq ho.size.symm;clear ho hk;refine ⟨B2, ?_⟩;refine wV 10 (iv 0) hR B2 ?_;refine we hL hR hK ?_;have Uz := PcsS.pcs Mu;have B1d := Ext.refl Xr;exact zl hJ [2, 3, 4, 5] ⟨U5, Jm, Sg, S8, Ru, Pa, Pz, R6, U6, rfl, hE, (B2.trans B1d), Ch, Bb, Bh, Be, Bk, Bc, Bj, Bl, Bi, Vx, Vp, Nf, Uz, E6, F6, F9, Ey, (T Bx (T D5 (T Dw (T Nh (T B04 Zk))))), (T (T Bx D5) Nc), (T Bx (Nat.le_of_eq Mx)), (T (T Bx (T D5 (T Dw Nh))) Iz), (T (T Bx (T D5 Dw)) (Nat.le_of_eq I4)), Lib.hid (by omega), Lib.hid (Nat.ne_of_lt (Nat.lt_of_lt_of_le L8 (T Nh Iz))), Lib.hid (by omega), Lib.hid (Nat.ne_of_lt (Nat.lt_of_lt_of_le G1 (T (T Dw Nh) Iz))), Lib.hid (by omega), Lib.hid (Nat.ne_of_gt (Nat.lt_of_lt_of_le R7 Iz))⟩
   ·
    refine sw 53 #[iv 0, iv 0, .slice none 0 0, .slice none 0 0] ?_;intro Sq Bam Ke B5e hb hbx;have ⟨D1, Dj, Dl, Dq⟩ := bq4 hbx;refine mv9 hb hE B2 Bb Bh Be Bk Bc Bj Bl fun hE B2 Bb Bh Be Bk Bc Bj Bl=>?_;replace Bi := Bi.x hb;have M4 := hb.size;have M3 := D1.lt;refine ⟨B2, ?_⟩;refine wC 0 73 #[iv 7] hR ((row_c 7 _).mono ?_);rintro e Ys ⟨B07, rfl, Nx, Zt, hb⟩;refine mv12 hb hE B2 Bb Bh Be Bk Bc Bj Bl Bi D1 Dj fun hE B2 Bb Bh Be Bk Bc Bj Bl Bi D1 Dj=>?_;refine mv2 hb Dl Dq fun Dl Dq=>?_;have L7 := hb.size;have I8 := Zt.va (show Globe.validL (rowL 7) = true by kernel_rfl);have B3v := I8.lt;refine ⟨_, rfl, B2, ?_⟩;have Wn : PcsAt Ys (some ⟨Jm, 0, none⟩) 2 [p4, p5] := PcsB.at (PcsB.cons (p := p4) (o := 0) (o' := 4) rfl (Bb.1) (Bh.1) (Be.1) (Bk.1) (AA.ext (aa_q (J6.aa)) (Jo.trans B2)) (PcsB.cons (p := p5) (o := 4) (o' := 8) rfl (Bc.1) (Bj.1) (Bl.1) (Bi.1) (AA.ext (aa_q (Cp.aa)) (Fj.trans B2)) PcsB.nil)) rfl (by omega);refine wC 4 13 #[iv 1, .agg #[sv B07 0 24 24], sv Jm 0 2 2] hR (((Build_c (id := 1) _ _ (by omega) (aa_q (I8.aa)) (Ext.refl _) Wn (Ext.refl _) (hT.ext hE)).mono fun _ _ h => h.eq (by kernel_rfl) rfl (show _ = [p5', p4] by kernel_rfl)).mono ?_);rintro e Wp ⟨Bap, Bbl, Rt, Pt, P8, Qw, rfl, B2o, Xj, B0p, Y3, Wz, hb⟩;refine mv12 hb hE B2 Bb Bh Be Bk Bc Bj Bl Bi D1 Dj fun hE B2 Bb Bh Be Bk Bc Bj Bl Bi D1 Dj=>?_;refine mv3 hb Dl Dq I8 fun Dl Dq I8=>?_;have Zx := hb.size;obtain ⟨Sj, Qy, rfl, rfl, Nn⟩ := va_of B2o (by kernel_rfl);have Iy := Xj _ rfl;have B6w := Nn.lt;have N4 : PcsS (fun k => Ys.heap.size ≤ k ∧ k < Wp.heap.size) Wp Pt P8 ([p5', p4]) := PcsS.both B0p;refine ⟨_, rfl, B2, ?_⟩;refine wW 5 (.tuple #[.agg #[iv 1, iv 1, sv Sj Qy 24 Rt, .slice Pt P8 Qw], iv 0]) 6 (.agg #[iv 1, iv 1, sv Sj Qy 24 Rt, .slice Pt P8 Qw]) hR B2 ?_;refine wV 7 (iv 0) hR B2 ?_;refine wS 9 hR (sn_setK4 (O := Sq) (j := 0) (v0 := iv 1) (v1 := iv 1) (v2 := sv Sj Qy 24 Rt) (v3 := .slice Pt P8 Qw) (ex_store (p := pw Sq 0) (v := .agg #[iv 1, iv 1, sv Sj Qy 24 Rt, .slice Pt P8 Qw]) rfl (by kernel_rfl) (by kernel_rfl) (st53 D1.1 D1.2 Dj.1 Dj.2 Dl.1 Dl.2 Dq.1 Dq.2)) D1 Dj Dl Dq ?_);intro Uy ho D1 Dj Dl Dq hk;replace hE := ho.ext hE (by omega);replace B2 := ho.ext B2 (T (T Bx D5) (Nat.le_of_eq Ke));have q9 := ho.bx Jm (by omega);replace Bb := q9 Bb;replace Bh := q9 Bh;replace Be := q9 Be;replace Bk := q9 Bk;replace Bc := q9 Bc;replace Bj := q9 Bj;replace Bl := q9 Bl;replace Bi := q9 Bi;clear q9;replace I8 := ho.va (by omega) I8;replace Nn := ho.va (Nat.ne_of_lt (Nat.lt_of_lt_of_le M3 (T L7 Iy))) Nn;replace N4 := N4.turn ho (fun h => absurd h.1 (Nat.not_le_of_lt (Nat.lt_of_lt_of_le M3 L7)));have Yq := Nat.le_of_eq ho.size.symm;clear ho hk;refine ⟨B2, ?_⟩;refine wV 10 (iv 0) hR B2 ?_;refine we hL hR hK ?_;have Xa := PcsS.pcs N4;have B3r := Ext.refl Uy;exact zl hJ [2, 3, 4, 5] ⟨B07, Jm, Sj, Qy, Rt, Pt, P8, Qw, Sq, rfl, hE, (B2.trans B3r), I8, Bb, Bh, Be, Bk, Bc, Bj, Bl, Bi, Y3, Wz, Nn, Xa, D1, Dj, Dl, Dq, (T Bx (T D5 (T M4 (T L7 (T Zx Yq))))), (T (T Bx (T D5 M4)) Nx), (T Bx (Nat.le_of_eq Mx)), (T (T Bx (T D5 (T M4 L7))) Iy), (T (T Bx D5) (Nat.le_of_eq Ke)), Lib.hid (by omega), Lib.hid (Nat.ne_of_lt (Nat.lt_of_lt_of_le B3v Iy)), Lib.hid (by omega), Lib.hid (Nat.ne_of_lt (Nat.lt_of_lt_of_le G1 (T (T M4 L7) Iy))), Lib.hid (by omega), Lib.hid (Nat.ne_of_gt (Nat.lt_of_lt_of_le M3 (T L7 Iy)))⟩
  ·
   refine sw 53 #[iv 0, iv 0, .slice none 0 0, .slice none 0 0] ?_;intro Ml Bbm J3 B4a hb hbx;have ⟨Bp, Bu, Br, Bt⟩ := bq4 hbx;refine mv2 hb hE B2 fun hE B2=>?_;have Jc := hb.size;have Et := Bp.lt;refine ⟨B2, ?_⟩;refine zw 0 3 hR ?_ ?_
   ·
    refine sc 73 #[iv 7] ((row_c 7 _).mono ?_);rintro e Bas ⟨B0d, rfl, Sd, Z6, hb⟩;refine mv6 hb hE B2 Bp Bu Br Bt fun hE B2 Bp Bu Br Bt=>?_;have Je := hb.size;have Fx := Z6.va (show Globe.validL (rowL 7) = true by kernel_rfl);have Ud := Fx.lt;refine ⟨_, rfl, B2, ?_⟩;refine wS 3 hR (sn_newS (us := #[iv 4, iv 100, .bool true, sv B1 0 24 24, iv 5, iv 200, .bool false, sv Mf 0 24 24]) (t := 49) (k := 2) (c := 2) (by kernel_rfl) ?_);intro U9 Zo Lk B4r hb hbx;have ⟨Ft, Gz, Gw, Gn, H6, Gm, Gr, Gt⟩ := bq8 hbx;refine mv7 hb hE B2 Bp Bu Br Bt Fx fun hE B2 Bp Bu Br Bt Fx=>?_;have L4 := hb.size;have B1w := Ft.lt;refine ⟨B2, ?_⟩;have Vd : PcsAt Zo (some ⟨U9, 0, none⟩) 2 [p4, p5] := PcsB.at (PcsB.cons (p := p4) (o := 0) (o' := 4) rfl (Ft.1) (Gz.1) (Gw.1) (Gn.1) (AA.ext (aa_q (J6.aa)) (Jo.trans B2)) (PcsB.cons (p := p5) (o := 4) (o' := 8) rfl (H6.1) (Gm.1) (Gr.1) (Gt.1) (AA.ext (aa_q (Cp.aa)) (Fj.trans B2)) PcsB.nil)) rfl (by omega);refine wC 4 13 #[iv 1, .agg #[sv B0d 0 24 24], sv U9 0 2 2] hR (((Build_c (id := 1) _ _ (by omega) (aa_q (Fx.aa)) (Ext.refl _) Vd (Ext.refl _) (hT.ext hE)).mono fun _ _ h => h.eq (by kernel_rfl) rfl (show _ = [p5', p4] by kernel_rfl)).mono ?_);rintro e Xi ⟨Bbi, Baw, Sf, P5, Pf, R3, rfl, B1n, V3, B08, Vq, Wj, hb⟩;refine mv12 hb hE B2 Bp Bu Br Bt Fx Ft Gz Gw Gn H6 fun hE B2 Bp Bu Br Bt Fx Ft Gz Gw Gn H6=>?_;refine mv3 hb Gm Gr Gt fun Gm Gr Gt=>?_;have Zp := hb.size;obtain ⟨S2, Qz, rfl, rfl, P0⟩ := va_of B1n (by kernel_rfl);have Ih := V3 _ rfl;have B6i := P0.lt;have Ms : PcsS (fun k => Zo.heap.size ≤ k ∧ k < Xi.heap.size) Xi P5 Pf ([p5', p4]) := PcsS.both B08;refine ⟨_, rfl, B2, ?_⟩;refine wW 5 (.tuple #[.agg #[iv 1, iv 1, sv S2 Qz 24 Sf, .slice P5 Pf R3], iv 0]) 6 (.agg #[iv 1, iv 1, sv S2 Qz 24 Sf, .slice P5 Pf R3]) hR B2 ?_;refine wV 7 (iv 0) hR B2 ?_;refine wS 9 hR (sn_setK4 (O := Ml) (j := 0) (v0 := iv 1) (v1 := iv 1) (v2 := sv S2 Qz 24 Sf) (v3 := .slice P5 Pf R3) (ex_store (p := pw Ml 0) (v := .agg #[iv 1, iv 1, sv S2 Qz 24 Sf, .slice P5 Pf R3]) rfl (by kernel_rfl) (by kernel_rfl) (st53 Bp.1 Bp.2 Bu.1 Bu.2 Br.1 Br.2 Bt.1 Bt.2)) Bp Bu Br Bt ?_);intro Xd ho Bp Bu Br Bt hk;replace hE := ho.ext hE (by omega);replace B2 := ho.ext B2 (T Bx (Nat.le_of_eq J3));replace Fx := ho.va (by omega) Fx;have q9 := ho.bx U9 (by omega);replace Ft := q9 Ft;replace Gz := q9 Gz;replace Gw := q9 Gw;replace Gn := q9 Gn;replace H6 := q9 H6;replace Gm := q9 Gm;replace Gr := q9 Gr;replace Gt := q9 Gt;clear q9;replace P0 := ho.va (Nat.ne_of_lt (Nat.lt_of_lt_of_le Et (T (T Je L4) Ih))) P0;replace Ms := Ms.turn ho (fun h => absurd h.1 (Nat.not_le_of_lt (Nat.lt_of_lt_of_le Et (T Je L4))));have B3p := Nat.le_of_eq ho.size.symm;clear ho hk;refine ⟨B2, ?_⟩;refine wV 10 (iv 0) hR B2 ?_;refine we hL hR hK ?_;have V0 := PcsS.pcs Ms;have B3e := Ext.refl Xd;exact zl hJ [2, 3, 4, 5] ⟨B0d, U9, S2, Qz, Sf, P5, Pf, R3, Ml, rfl, hE, (B2.trans B3e), Fx, Ft, Gz, Gw, Gn, H6, Gm, Gr, Gt, Vq, Wj, P0, V0, Bp, Bu, Br, Bt, (T Bx (T Jc (T Je (T L4 (T Zp B3p))))), (T (T Bx Jc) Sd), (T (T Bx (T Jc Je)) (Nat.le_of_eq Lk)), (T (T Bx (T Jc (T Je L4))) Ih), (T Bx (Nat.le_of_eq J3)), Lib.hid (by omega), Lib.hid (Nat.ne_of_lt (Nat.lt_of_lt_of_le Ud (T L4 Ih))), Lib.hid (by omega), Lib.hid (Nat.ne_of_lt (Nat.lt_of_lt_of_le B1w Ih)), Lib.hid (by omega), Lib.hid (Nat.ne_of_gt (Nat.lt_of_lt_of_le Et (T (T Je L4) Ih)))⟩
   ·
    refine sn_newS (us := #[iv 4, iv 100, .bool true, sv B1 0 24 24, iv 5, iv 200, .bool false, sv Mf 0 24 24]) (t := 49) (k := 2) (c := 2) (by kernel_rfl) ?_;intro U3 B9i N3 B51 hb hbx;have ⟨E1, Ej, El, F7, Eu, Eo, F5, Em⟩ := bq8 hbx;refine mv6 hb hE B2 Bp Bu Br Bt fun hE B2 Bp Bu Br Bt=>?_;have Jk := hb.size;have Ug := E1.lt;refine ⟨B2, ?_⟩;refine wC 0 73 #[iv 7] hR ((row_c 7 _).mono ?_);rintro e Zr ⟨B1g, rfl, P1, B0y, hb⟩;refine mv12 hb hE B2 Bp Bu Br Bt E1 Ej El F7 Eu Eo fun hE B2 Bp Bu Br Bt E1 Ej El F7 Eu Eo=>?_;refine mv2 hb F5 Em fun F5 Em=>?_;have Kx := hb.size;have I6 := B0y.va (show Globe.validL (rowL 7) = true by kernel_rfl);have B23 := I6.lt;refine ⟨_, rfl, B2, ?_⟩;have Y4 : PcsAt Zr (some ⟨U3, 0, none⟩) 2 [p4, p5] := PcsB.at (PcsB.cons (p := p4) (o := 0) (o' := 4) rfl (E1.1) (Ej.1) (El.1) (F7.1) (AA.ext (aa_q (J6.aa)) (Jo.trans B2)) (PcsB.cons (p := p5) (o := 4) (o' := 8) rfl (Eu.1) (Eo.1) (F5.1) (Em.1) (AA.ext (aa_q (Cp.aa)) (Fj.trans B2)) PcsB.nil)) rfl (by omega);refine wC 4 13 #[iv 1, .agg #[sv B1g 0 24 24], sv U3 0 2 2] hR (((Build_c (id := 1) _ _ (by omega) (aa_q (I6.aa)) (Ext.refl _) Y4 (Ext.refl _) (hT.ext hE)).mono fun _ _ h => h.eq (by kernel_rfl) rfl (show _ = [p5', p4] by kernel_rfl)).mono ?_);rintro e Yl ⟨Bb2, B9o, R9, Q6, P9, Qp, rfl, B0l, Vn, B17, V5, Xh, hb⟩;refine mv12 hb hE B2 Bp Bu Br Bt E1 Ej El F7 Eu Eo fun hE B2 Bp Bu Br Bt E1 Ej El F7 Eu Eo=>?_;refine mv3 hb F5 Em I6 fun F5 Em I6=>?_;have B3u := hb.size;obtain ⟨R5, Qj, rfl, rfl, Ny⟩ := va_of B0l (by kernel_rfl);have J0 := Vn _ rfl;have B80 := Ny.lt;have N6 : PcsS (fun k => Zr.heap.size ≤ k ∧ k < Yl.heap.size) Yl Q6 P9 ([p5', p4]) := PcsS.both B17;refine ⟨_, rfl, B2, ?_⟩;refine wW 5 (.tuple #[.agg #[iv 1, iv 1, sv R5 Qj 24 R9, .slice Q6 P9 Qp], iv 0]) 6 (.agg #[iv 1, iv 1, sv R5 Qj 24 R9, .slice Q6 P9 Qp]) hR B2 ?_;refine wV 7 (iv 0) hR B2 ?_;refine wS 9 hR (sn_setK4 (O := Ml) (j := 0) (v0 := iv 1) (v1 := iv 1) (v2 := sv R5 Qj 24 R9) (v3 := .slice Q6 P9 Qp) (ex_store (p := pw Ml 0) (v := .agg #[iv 1, iv 1, sv R5 Qj 24 R9, .slice Q6 P9 Qp]) rfl (by kernel_rfl) (by kernel_rfl) (st53 Bp.1 Bp.2 Bu.1 Bu.2 Br.1 Br.2 Bt.1 Bt.2)) Bp Bu Br Bt ?_);intro Wi ho Bp Bu Br Bt hk;replace hE := ho.ext hE (by omega);replace B2 := ho.ext B2 (T Bx (Nat.le_of_eq J3));have q9 := ho.bx U3 (by omega);replace E1 := q9 E1;replace Ej := q9 Ej;replace El := q9 El;replace F7 := q9 F7;replace Eu := q9 Eu;replace Eo := q9 Eo;replace F5 := q9 F5;replace Em := q9 Em;clear q9;replace I6 := ho.va (by omega) I6;replace Ny := ho.va (Nat.ne_of_lt (Nat.lt_of_lt_of_le Et (T (T Jk Kx) J0))) Ny;replace N6 := N6.turn ho (fun h => absurd h.1 (Nat.not_le_of_lt (Nat.lt_of_lt_of_le Et (T Jk Kx))));have Yy := Nat.le_of_eq ho.size.symm;clear ho hk;refine ⟨B2, ?_⟩;refine wV 10 (iv 0) hR B2 ?_;refine we hL hR hK ?_;have Vg := PcsS.pcs N6;have B1m := Ext.refl Wi;exact zl hJ [2, 3, 4, 5] ⟨B1g, U3, R5, Qj, R9, Q6, P9, Qp, Ml, rfl, hE, (B2.trans B1m), I6, E1, Ej, El, F7, Eu, Eo, F5, Em, V5, Xh, Ny, Vg, Bp, Bu, Br, Bt, (T Bx (T Jc (T Jk (T Kx (T B3u Yy))))), (T (T Bx (T Jc Jk)) P1), (T (T Bx Jc) (Nat.le_of_eq N3)), (T (T Bx (T Jc (T Jk Kx))) J0), (T Bx (Nat.le_of_eq J3)), Lib.hid (by omega), Lib.hid (Nat.ne_of_lt (Nat.lt_of_lt_of_le B23 J0)), Lib.hid (by omega), Lib.hid (Nat.ne_of_lt (Nat.lt_of_lt_of_le Ug (T Kx J0))), Lib.hid (by omega), Lib.hid (Nat.ne_of_gt (Nat.lt_of_lt_of_le Et (T (T Jk Kx) J0)))⟩
 ·
  clear hE B2;rintro L ws U7 ⟨P7, Kk, Jn, Km, Kv, Jz, Kd, Kn, J2, rfl, hE, B2, C1, C7, Cd, Cf, Cn, Cl, Ci, Co, Cg, Ui, Sc, Iv, Jg, Cv, Db, D9, Da, Ep, B79, B7r, B6g, B6l, B9b, B7v, B6m, B75, B7t, B7c⟩;have E7 := Ext.refl U7;have B7n := C1.lt;have B8q := C7.lt;have B6c := Iv.lt;have B6n := Cv.lt;refine zq (zc (zp (pU (.agg #[iv 1, iv 1, sv Jn Km 24 Kv, .slice Jz Kd Kn]) (xl (ld53 (Cv.1) (Db.1) (D9.1) (Da.1))) ?_)));refine pU (.agg #[iv 6, iv 300, .bool true, sv We 0 24 24]) (xl (ld49 (G7.c (B2.trans E7)) (Hz.c (B2.trans E7)) (I5.c (B2.trans E7)) (Ig.c (B2.trans E7)))) ?_;refine pS (sc 36 #[.agg #[iv 1, iv 1, sv Jn Km 24 Kv, .slice Jz Kd Kn], .agg #[iv 6, iv 300, .bool true, sv We 0 24 24]] (((Next_c (id := 1) (ver := 1) (x := p6) _ _ (by omega) (aa_q (Iv.aa)) (Ext.refl _) (Jg) (Ext.refl _) (hT.ext hE) Sc (aa_q (K7.aa)) (B2.trans E7)).mono fun _ _ h => h.eq (by kernel_rfl) (show _ = (2 : Int) by kernel_rfl) (show _ = [p5', p4', p6] by kernel_rfl)).mono ?_));rintro e B0e ⟨Bac, B9p, Hk, Fv, Fq, Hh, rfl, B2d, Wb, B2h, B52, B4n, hb⟩;refine mv2 hb hE E7 fun hE E7=>?_;have Ea := hb.size;obtain ⟨He, Hg, rfl, rfl, Gf⟩ := va_of B2d (by kernel_rfl);have B49 := Wb _ rfl;have B3x := Gf.lt;have Cw : PcsS (fun k => U7.heap.size ≤ k ∧ k < B0e.heap.size) B0e Fv Fq ([p5', p4', p6]) := PcsS.both B2h;refine ⟨_, rfl, pD (.tuple #[.agg #[iv 1, iv 2, sv He Hg 24 Hk, .slice Fv Fq Hh], iv 0]) (.agg #[iv 1, iv 2, sv He Hg 24 Hk, .slice Fv Fq Hh]) ?_⟩;refine pT (iv 0) ?_;refine pS (sw 53 #[iv 0, iv 0, .slice none 0 0, .slice none 0 0] ?_);intro I7 B5s Lj B5o hb hbx;have ⟨Cs, D0, D4, D3⟩ := bq4 hbx;refine mv4 hb hE E7 Gf Cw fun hE E7 Gf Cw=>?_;have Fh := hb.size;have B7j := Cs.lt;refine pP (zG I7 (iv 1) (iv 2) (sv He Hg 24 Hk) (.slice Fv Fq Hh) (st53 Cs.1 Cs.2 D0.1 D0.2 D4.1 D4.2 D3.1 D3.2) Cs D0 D4 D3 ?_);intro Lt ho Cs D0 D4 D3 hk;replace hE := ho.ext hE (by omega);replace E7 := ho.ext E7 (T Ea (Nat.le_of_eq Lj));replace Gf := ho.va (by omega) Gf;replace Cw := Cw.turn ho (fun h => absurd h.2 (Nat.not_lt_of_le (Nat.le_of_eq Lj)));have Fk := Nat.le_of_eq ho.size.symm;clear ho hk;refine pT (iv 0) ?_;refine pl_nil (qw_then ?_);refine cw_seq ?_;have B0 := Ext.refl Lt;refine cw_join (fun ws' Y => ∃ J7 G4 : Nat, ∃ Dv Ff Fi : Nat, ∃ E9 : Option Addr, ∃ Ec Fd Fu : Nat, ws' = [(3, pw Jt 0), (4, pw J2 0), (5, iv 0), (6, pw I7 0), (7, iv 0), (8, pw Fu 0), (9, iv 0)] ∧ Ext w Y ∧ Ext Lt Y ∧ PcsAt Y Fv Fq ([p5', p4', p6]) ∧ VA Y J7 0 (rowL 7) ∧ BoxAt Y G4 0 (iv 5) ∧ BoxAt Y G4 1 (iv 200) ∧ BoxAt Y G4 2 (.bool false) ∧ BoxAt Y G4 3 (sv Mf 0 24 24) ∧ Ec ≤ Fd ∧ Pl E9 ∧ VA Y Dv Ff (rowL 7) ∧ PcsAt Y E9 Ec ([p5]) ∧ BoxAt Y Fu 0 (iv 1) ∧ BoxAt Y Fu 1 (iv 1) ∧ BoxAt Y Fu 2 (sv Dv Ff 24 Fi) ∧ BoxAt Y Fu 3 (.slice E9 Ec Fd) ∧ Lt.heap.size ≤ Y.heap.size ∧ Lt.heap.size ≤ J7 ∧ Lt.heap.size ≤ G4 ∧ Lt.heap.size ≤ Dv ∧ Lt.heap.size ≤ Fu ∧ Hid (J7 ≠ G4) ∧ Hid (J7 ≠ Dv) ∧ Hid (J7 ≠ Fu) ∧ Hid (G4 ≠ Dv) ∧ Hid (G4 ≠ Fu) ∧ Hid (Dv ≠ Fu)) (fun hJ => ?_) ?_
  ·
   have B2r := B2.trans E7;have B7 := Fj.trans B2r;refine dE Tz42_1 (fun w' => Ext X24 w') (Ext.drew (B7.trans B0)) (fun ops Q B9t hb hL hR hK => ?_);refine mv2 hb hE B0 fun hE B0=>?_;have B6 := hb.size;refine wM 1 (.agg #[iv 5, iv 200, .bool false, sv Mf 0 24 24]) hR (fun w hS => ld49 (Gb.c hS) (Ic.c hS) (I9.c hS) (Hu.c hS)) (B7.trans B0) ?_;refine wd_three 0 2 7 hR rfl rfl rfl (by kernel_rfl) (by kernel_rfl) (by kernel_rfl) (by kernel_rfl) (by kernel_rfl) ?_ ?_ ?_
   ·
    refine sc 73 #[iv 7] ((row_c 7 _).mono ?_);rintro e B9x ⟨J7, rfl, Qo, B0s, hb⟩;refine mv2 hb hE B0 fun hE B0=>?_;have D7 := hb.size;have Bq := B0s.va (show Globe.validL (rowL 7) = true by kernel_rfl);have G0 := Bq.lt;refine ⟨_, rfl, B7.trans B0, ?_⟩;refine zw 2 7 hR ?_ ?_
    ·
     refine sn_newS (us := #[iv 5, iv 200, .bool false, sv Mf 0 24 24]) (t := 49) (k := 1) (c := 1) (by kernel_rfl) ?_;intro G4 B37 Lx B55 hb hbx;have ⟨C0, C3, C2, C4⟩ := bq4 hbx;refine mv3 hb hE B0 Bq fun hE B0 Bq=>?_;have Dx := hb.size;have La := C0.lt;refine ⟨(B7.trans B0), ?_⟩;refine zw 3 7 hR ?_ ?_
     ·
      have Xx : PcsAt B37 (some ⟨G4, 0, none⟩) 1 [p5] := PcsB.at (PcsB.cons (p := p5) (o := 0) (o' := 4) rfl (C0.1) (C3.1) (C2.1) (C4.1) (AA.ext (aa_q (Cp.aa)) (B7.trans B0)) PcsB.nil) rfl (by omega);refine sc 13 #[iv 1, .agg #[sv J7 0 24 24], sv G4 0 1 1] (((Build_c (id := 1) _ _ (by omega) (aa_q (Bq.aa)) (Ext.refl _) Xx (Ext.refl _) (hT.ext hE)).mono fun _ _ h => h.eq (by kernel_rfl) rfl (show _ = [p5] by kernel_rfl)).mono ?_);rintro e B0h ⟨Bbq, Bbd, Fi, E9, Ec, Fd, rfl, B2u, Wd, B0r, Rz, K6, hb⟩;refine mv7 hb hE B0 Bq C0 C3 C2 C4 fun hE B0 Bq C0 C3 C2 C4=>?_;have Jd := hb.size;obtain ⟨Dv, Ff, rfl, rfl, Ed⟩ := va_of B2u (by kernel_rfl);have Lf := Wd _ rfl;have Uk := Ed.lt;have K3 : PcsS (fun k => B37.heap.size ≤ k ∧ k < B0h.heap.size) B0h E9 Ec ([p5]) := PcsS.both B0r;have hS := B7.trans B0;refine ⟨_, rfl, hS, ?_⟩;refine wW 4 (.tuple #[.agg #[iv 1, iv 1, sv Dv Ff 24 Fi, .slice E9 Ec Fd], iv 0]) 5 (.agg #[iv 1, iv 1, sv Dv Ff 24 Fi, .slice E9 Ec Fd]) hR hS ?_;refine wV 6 (iv 0) hR hS ?_;refine wN 7 53 #[iv 0, iv 0, .slice none 0 0, .slice none 0 0] hR ?_;intro Fu B4k Fg B62 hb hbx;have ⟨Cb, Cu, Ct, Cr⟩ := bq4 hbx;refine mv9 hb hE B0 Bq C0 C3 C2 C4 Ed K3 fun hE B0 Bq C0 C3 C2 C4 Ed K3=>?_;have Yu := hb.size;have B6a := Cb.lt;refine ⟨(B7.trans B0), ?_⟩;refine wS 8 hR (sn_setK4 (O := Fu) (j := 0) (v0 := iv 1) (v1 := iv 1) (v2 := sv Dv Ff 24 Fi) (v3 := .slice E9 Ec Fd) (ex_store (p := pw Fu 0) (v := .agg #[iv 1, iv 1, sv Dv Ff 24 Fi, .slice E9 Ec Fd]) rfl (by kernel_rfl) (by kernel_rfl) (st53 Cb.1 Cb.2 Cu.1 Cu.2 Ct.1 Ct.2 Cr.1 Cr.2)) Cb Cu Ct Cr ?_);intro Xw ho Cb Cu Ct Cr hk;replace hE := ho.ext hE (by omega);replace B0 := ho.ext B0 (by omega);replace Bq := ho.va (by omega) Bq;have q9 := ho.bx G4 (by omega);replace C0 := q9 C0;replace C3 := q9 C3;replace C2 := q9 C2;replace C4 := q9 C4;clear q9;replace Ed := ho.va (by omega) Ed;replace K3 := K3.turn ho (fun h => absurd h.2 (Nat.not_lt_of_le (Nat.le_of_eq Fg)));have B1i := Nat.le_of_eq ho.size.symm;clear ho hk;refine ⟨(B7.trans B0), ?_⟩;refine wV 9 (iv 0) hR (B7.trans B0) ?_;refine we hL hR hK ?_;have Rj := PcsS.pcs (Cw.ext B0);have B2p := Ext.refl Xw;have Fy := PcsS.pcs K3;exact zl hJ [3, 4, 5, 6, 7, 8, 9] ⟨J7, G4, Dv, Ff, Fi, E9, Ec, Fd, Fu, rfl, hE, (B0.trans B2p), Rj, Bq, C0, C3, C2, C4, Rz, K6, Ed, Fy, Cb, Cu, Ct, Cr, (T B6 (T D7 (T Dx (T Jd (T Yu B1i))))), (T B6 Qo), (T (T B6 D7) (Nat.le_of_eq Lx)), (T (T B6 (T D7 Dx)) Lf), (by omega), Lib.hid (by omega), Lib.hid (Nat.ne_of_lt (Nat.lt_of_lt_of_le G0 (T Dx Lf))), Lib.hid (by omega), Lib.hid (Nat.ne_of_lt (Nat.lt_of_lt_of_le La Lf)), Lib.hid (by omega), Lib.hid (by omega)⟩
     ·
      refine sw 53 #[iv 0, iv 0, .slice none 0 0, .slice none 0 0] ?_;intro Sy B0g Ie B4x hb hbx;have ⟨Dz, Ev, Ek, Eh⟩ := bq4 hbx;refine mv7 hb hE B0 Bq C0 C3 C2 C4 fun hE B0 Bq C0 C3 C2 C4=>?_;have Nq := hb.size;have Qt := Dz.lt;refine ⟨(B7.trans B0), ?_⟩;have V8 : PcsAt B0g (some ⟨G4, 0, none⟩) 1 [p5] := PcsB.at (PcsB.cons (p := p5) (o := 0) (o' := 4) rfl (C0.1) (C3.1) (C2.1) (C4.1) (AA.ext (aa_q (Cp.aa)) (B7.trans B0)) PcsB.nil) rfl (by omega);refine wC 3 13 #[iv 1, .agg #[sv J7 0 24 24], sv G4 0 1 1] hR (((Build_c (id := 1) _ _ (by omega) (aa_q (Bq.aa)) (Ext.refl _) V8 (Ext.refl _) (hT.ext hE)).mono fun _ _ h => h.eq (by kernel_rfl) rfl (show _ = [p5] by kernel_rfl)).mono ?_);rintro e Uv ⟨Baz, Bbf, Re, P6, Pq, Rf, rfl, Z9, Ye, B3h, Y6, Vi, hb⟩;refine mv9 hb hE B0 Bq C0 C3 C2 C4 Dz Ev fun hE B0 Bq C0 C3 C2 C4 Dz Ev=>?_;refine mv2 hb Ek Eh fun Ek Eh=>?_;have Yx := hb.size;obtain ⟨Sb, Rd, rfl, rfl, Nw⟩ := va_of Z9 (by kernel_rfl);have Iq := Ye _ rfl;have B83 := Nw.lt;have Mq : PcsS (fun k => B0g.heap.size ≤ k ∧ k < Uv.heap.size) Uv P6 Pq ([p5]) := PcsS.both B3h;have hS := B7.trans B0;refine ⟨_, rfl, hS, ?_⟩;refine wW 4 (.tuple #[.agg #[iv 1, iv 1, sv Sb Rd 24 Re, .slice P6 Pq Rf], iv 0]) 5 (.agg #[iv 1, iv 1, sv Sb Rd 24 Re, .slice P6 Pq Rf]) hR hS ?_;refine wV 6 (iv 0) hR hS ?_;refine wS 8 hR (sn_setK4 (O := Sy) (j := 0) (v0 := iv 1) (v1 := iv 1) (v2 := sv Sb Rd 24 Re) (v3 := .slice P6 Pq Rf) (ex_store (p := pw Sy 0) (v := .agg #[iv 1, iv 1, sv Sb Rd 24 Re, .slice P6 Pq Rf]) rfl (by kernel_rfl) (by kernel_rfl) (st53 Dz.1 Dz.2 Ev.1 Ev.2 Ek.1 Ek.2 Eh.1 Eh.2)) Dz Ev Ek Eh ?_);intro Xn ho Dz Ev Ek Eh hk;replace hE := ho.ext hE (by omega);replace B0 := ho.ext B0 (T (T B6 (T D7 Dx)) (Nat.le_of_eq Ie));replace Bq := ho.va (by omega) Bq;have q9 := ho.bx G4 (by omega);replace C0 := q9 C0;replace C3 := q9 C3;replace C2 := q9 C2;replace C4 := q9 C4;clear q9;replace Nw := ho.va (Nat.ne_of_lt (Nat.lt_of_lt_of_le Qt Iq)) Nw;replace Mq := Mq.turn ho (fun h => absurd h.1 (Nat.not_le_of_lt (Nat.lt_of_lt_of_le Qt (Nat.le_refl _))));have B0q := Nat.le_of_eq ho.size.symm;clear ho hk;refine ⟨(B7.trans B0), ?_⟩;refine wV 9 (iv 0) hR (B7.trans B0) ?_;refine we hL hR hK ?_;have Vr := PcsS.pcs (Cw.ext B0);have B40 := Ext.refl Xn;have Wl := PcsS.pcs Mq;exact zl hJ [3, 4, 5, 6, 7, 8, 9] ⟨J7, G4, Sb, Rd, Re, P6, Pq, Rf, Sy, rfl, hE, (B0.trans B40), Vr, Bq, C0, C3, C2, C4, Y6, Vi, Nw, Wl, Dz, Ev, Ek, Eh, (T B6 (T D7 (T Dx (T Nq (T Yx B0q))))), (T B6 Qo), (T (T B6 D7) (Nat.le_of_eq Lx)), (T (T B6 (T D7 (T Dx Nq))) Iq), (T (T B6 (T D7 Dx)) (Nat.le_of_eq Ie)), Lib.hid (by omega), Lib.hid (Nat.ne_of_lt (Nat.lt_of_lt_of_le G0 (T (T Dx Nq) Iq))), Lib.hid (by omega), Lib.hid (Nat.ne_of_lt (Nat.lt_of_lt_of_le La (T Nq Iq))), Lib.hid (by omega), Lib.hid (Nat.ne_of_gt (Nat.lt_of_lt_of_le Qt Iq))⟩
    ·
     refine sw 53 #[iv 0, iv 0, .slice none 0 0, .slice none 0 0] ?_;intro Sv Bb9 Kf B5w hb hbx;have ⟨Cy, Dm, Do, Dh⟩ := bq4 hbx;refine mv3 hb hE B0 Bq fun hE B0 Bq=>?_;have Mb := hb.size;have M6 := Cy.lt;refine ⟨(B7.trans B0), ?_⟩;refine wS 2 hR (sn_newS (us := #[iv 5, iv 200, .bool false, sv Mf 0 24 24]) (t := 49) (k := 1) (c := 1) (by kernel_rfl) ?_);intro Sz Z4 Ls B59 hb hbx;have ⟨Fr, Gi, Gv, H4⟩ := bq4 hbx;refine mv7 hb hE B0 Bq Cy Dm Do Dh fun hE B0 Bq Cy Dm Do Dh=>?_;have Kr := hb.size;have B0i := Fr.lt;refine ⟨(B7.trans B0), ?_⟩;have Y0 : PcsAt Z4 (some ⟨Sz, 0, none⟩) 1 [p5] := PcsB.at (PcsB.cons (p := p5) (o := 0) (o' := 4) rfl (Fr.1) (Gi.1) (Gv.1) (H4.1) (AA.ext (aa_q (Cp.aa)) (B7.trans B0)) PcsB.nil) rfl (by omega);refine wC 3 13 #[iv 1, .agg #[sv J7 0 24 24], sv Sz 0 1 1] hR (((Build_c (id := 1) _ _ (by omega) (aa_q (Bq.aa)) (Ext.refl _) Y0 (Ext.refl _) (hT.ext hE)).mono fun _ _ h => h.eq (by kernel_rfl) rfl (show _ = [p5] by kernel_rfl)).mono ?_);rintro e Yb ⟨Bai, Bbr, Ry, Pm, Q4, R4, rfl, Zm, Yg, B05, Vt, Y5, hb⟩;refine mv9 hb hE B0 Bq Cy Dm Do Dh Fr Gi fun hE B0 Bq Cy Dm Do Dh Fr Gi=>?_;refine mv2 hb Gv H4 fun Gv H4=>?_;have Yp := hb.size;obtain ⟨Rs, Rn, rfl, rfl, Nt⟩ := va_of Zm (by kernel_rfl);have Iw := Yg _ rfl;have B7e := Nt.lt;have N9 : PcsS (fun k => Z4.heap.size ≤ k ∧ k < Yb.heap.size) Yb Pm Q4 ([p5]) := PcsS.both B05;have hS := B7.trans B0;refine ⟨_, rfl, hS, ?_⟩;refine wW 4 (.tuple #[.agg #[iv 1, iv 1, sv Rs Rn 24 Ry, .slice Pm Q4 R4], iv 0]) 5 (.agg #[iv 1, iv 1, sv Rs Rn 24 Ry, .slice Pm Q4 R4]) hR hS ?_;refine wV 6 (iv 0) hR hS ?_;refine wS 8 hR (sn_setK4 (O := Sv) (j := 0) (v0 := iv 1) (v1 := iv 1) (v2 := sv Rs Rn 24 Ry) (v3 := .slice Pm Q4 R4) (ex_store (p := pw Sv 0) (v := .agg #[iv 1, iv 1, sv Rs Rn 24 Ry, .slice Pm Q4 R4]) rfl (by kernel_rfl) (by kernel_rfl) (st53 Cy.1 Cy.2 Dm.1 Dm.2 Do.1 Do.2 Dh.1 Dh.2)) Cy Dm Do Dh ?_);intro Vb ho Cy Dm Do Dh hk;replace hE := ho.ext hE (by omega);replace B0 := ho.ext B0 (T (T B6 D7) (Nat.le_of_eq Kf));replace Bq := ho.va (by omega) Bq;have q9 := ho.bx Sz (by omega);replace Fr := q9 Fr;replace Gi := q9 Gi;replace Gv := q9 Gv;replace H4 := q9 H4;clear q9;replace Nt := ho.va (Nat.ne_of_lt (Nat.lt_of_lt_of_le M6 (T Kr Iw))) Nt;replace N9 := N9.turn ho (fun h => absurd h.1 (Nat.not_le_of_lt (Nat.lt_of_lt_of_le M6 Kr)));have B1s := Nat.le_of_eq ho.size.symm;clear ho hk;refine ⟨(B7.trans B0), ?_⟩;refine wV 9 (iv 0) hR (B7.trans B0) ?_;refine we hL hR hK ?_;have Vk := PcsS.pcs (Cw.ext B0);have B3y := Ext.refl Vb;have Yc := PcsS.pcs N9;exact zl hJ [3, 4, 5, 6, 7, 8, 9] ⟨J7, Sz, Rs, Rn, Ry, Pm, Q4, R4, Sv, rfl, hE, (B0.trans B3y), Vk, Bq, Fr, Gi, Gv, H4, Vt, Y5, Nt, Yc, Cy, Dm, Do, Dh, (T B6 (T D7 (T Mb (T Kr (T Yp B1s))))), (T B6 Qo), (T (T B6 (T D7 Mb)) (Nat.le_of_eq Ls)), (T (T B6 (T D7 (T Mb Kr))) Iw), (T (T B6 D7) (Nat.le_of_eq Kf)), Lib.hid (by omega), Lib.hid (Nat.ne_of_lt (Nat.lt_of_lt_of_le G0 (T (T Mb Kr) Iw))), Lib.hid (by omega), Lib.hid (Nat.ne_of_lt (Nat.lt_of_lt_of_le B0i Iw)), Lib.hid (by omega), Lib.hid (Nat.ne_of_gt (Nat.lt_of_lt_of_le M6 (T Kr Iw)))⟩
   ·
    refine sn_newS (us := #[iv 5, iv 200, .bool false, sv Mf 0 24 24]) (t := 49) (k := 1) (c := 1) (by kernel_rfl) ?_;intro Jl Baj Mr B5h hb hbx;have ⟨Ba, Bf, Bm, Bg⟩ := bq4 hbx;refine mv2 hb hE B0 fun hE B0=>?_;have D6 := hb.size;have G2 := Ba.lt;refine ⟨(B7.trans B0), ?_⟩;refine zw 0 7 hR ?_ ?_
    ·
     refine sc 73 #[iv 7] ((row_c 7 _).mono ?_);rintro e B2x ⟨Sx, rfl, Nm, B0c, hb⟩;refine mv6 hb hE B0 Ba Bf Bm Bg fun hE B0 Ba Bf Bm Bg=>?_;have Dy := hb.size;have Cj := B0c.va (show Globe.validL (rowL 7) = true by kernel_rfl);have L3 := Cj.lt;refine ⟨_, rfl, B7.trans B0, ?_⟩;refine zw 3 7 hR ?_ ?_
     ·
      have Xu : PcsAt B2x (some ⟨Jl, 0, none⟩) 1 [p5] := PcsB.at (PcsB.cons (p := p5) (o := 0) (o' := 4) rfl (Ba.1) (Bf.1) (Bm.1) (Bg.1) (AA.ext (aa_q (Cp.aa)) (B7.trans B0)) PcsB.nil) rfl (by omega);refine sc 13 #[iv 1, .agg #[sv Sx 0 24 24], sv Jl 0 1 1] (((Build_c (id := 1) _ _ (by omega) (aa_q (Cj.aa)) (Ext.refl _) Xu (Ext.refl _) (hT.ext hE)).mono fun _ _ h => h.eq (by kernel_rfl) rfl (show _ = [p5] by kernel_rfl)).mono ?_);rintro e B3s ⟨Bb3, Baf, Qv, Pu, Pg, Qh, rfl, B2k, V1, B2q, Wg, Xf, hb⟩;refine mv7 hb hE B0 Ba Bf Bm Bg Cj fun hE B0 Ba Bf Bm Bg Cj=>?_;have Jj := hb.size;obtain ⟨Rp, Rv, rfl, rfl, L5⟩ := va_of B2k (by kernel_rfl);have Lv := V1 _ rfl;have Um := L5.lt;have Kg : PcsS (fun k => B2x.heap.size ≤ k ∧ k < B3s.heap.size) B3s Pu Pg ([p5]) := PcsS.both B2q;have hS := B7.trans B0;refine ⟨_, rfl, hS, ?_⟩;refine wW 4 (.tuple #[.agg #[iv 1, iv 1, sv Rp Rv 24 Qv, .slice Pu Pg Qh], iv 0]) 5 (.agg #[iv 1, iv 1, sv Rp Rv 24 Qv, .slice Pu Pg Qh]) hR hS ?_;refine wV 6 (iv 0) hR hS ?_;refine wN 7 53 #[iv 0, iv 0, .slice none 0 0, .slice none 0 0] hR ?_;intro Ua B61 Fa B4o hb hbx;have ⟨Fw, H9, H5, Gy⟩ := bq4 hbx;refine mv9 hb hE B0 Ba Bf Bm Bg Cj L5 Kg fun hE B0 Ba Bf Bm Bg Cj L5 Kg=>?_;have B3f := hb.size;have B87 := Fw.lt;refine ⟨(B7.trans B0), ?_⟩;refine wS 8 hR (sn_setK4 (O := Ua) (j := 0) (v0 := iv 1) (v1 := iv 1) (v2 := sv Rp Rv 24 Qv) (v3 := .slice Pu Pg Qh) (ex_store (p := pw Ua 0) (v := .agg #[iv 1, iv 1, sv Rp Rv 24 Qv, .slice Pu Pg Qh]) rfl (by kernel_rfl) (by kernel_rfl) (st53 Fw.1 Fw.2 H9.1 H9.2 H5.1 H5.2 Gy.1 Gy.2)) Fw H9 H5 Gy ?_);intro Uw ho Fw H9 H5 Gy hk;replace hE := ho.ext hE (by omega);replace B0 := ho.ext B0 (by omega);have q9 := ho.bx Jl (by omega);replace Ba := q9 Ba;replace Bf := q9 Bf;replace Bm := q9 Bm;replace Bg := q9 Bg;clear q9;replace Cj := ho.va (by omega) Cj;replace L5 := ho.va (by omega) L5;replace Kg := Kg.turn ho (fun h => absurd h.2 (Nat.not_lt_of_le (Nat.le_of_eq Fa)));have B00 := Nat.le_of_eq ho.size.symm;clear ho hk;refine ⟨(B7.trans B0), ?_⟩;refine wV 9 (iv 0) hR (B7.trans B0) ?_;refine we hL hR hK ?_;have Ya := PcsS.pcs (Cw.ext B0);have B2v := Ext.refl Uw;have Wc := PcsS.pcs Kg;exact zl hJ [3, 4, 5, 6, 7, 8, 9] ⟨Sx, Jl, Rp, Rv, Qv, Pu, Pg, Qh, Ua, rfl, hE, (B0.trans B2v), Ya, Cj, Ba, Bf, Bm, Bg, Wg, Xf, L5, Wc, Fw, H9, H5, Gy, (T B6 (T D6 (T Dy (T Jj (T B3f B00))))), (T (T B6 D6) Nm), (T B6 (Nat.le_of_eq Mr)), (T (T B6 (T D6 Dy)) Lv), (by omega), Lib.hid (by omega), Lib.hid (Nat.ne_of_lt (Nat.lt_of_lt_of_le L3 Lv)), Lib.hid (by omega), Lib.hid (Nat.ne_of_lt (Nat.lt_of_lt_of_le G2 (T Dy Lv))), Lib.hid (by omega), Lib.hid (by omega)⟩
     ·
      refine sw 53 #[iv 0, iv 0, .slice none 0 0, .slice none 0 0] ?_;intro U0 Zg Ht B4w hb hbx;have ⟨E0, Ei, F2, Es⟩ := bq4 hbx;refine mv7 hb hE B0 Ba Bf Bm Bg Cj fun hE B0 Ba Bf Bm Bg Cj=>?_;have Nk := hb.size;have S1 := E0.lt;refine ⟨(B7.trans B0), ?_⟩;have X0 : PcsAt Zg (some ⟨Jl, 0, none⟩) 1 [p5] := PcsB.at (PcsB.cons (p := p5) (o := 0) (o' := 4) rfl (Ba.1) (Bf.1) (Bm.1) (Bg.1) (AA.ext (aa_q (Cp.aa)) (B7.trans B0)) PcsB.nil) rfl (by omega);refine wC 3 13 #[iv 1, .agg #[sv Sx 0 24 24], sv Jl 0 1 1] hR (((Build_c (id := 1) _ _ (by omega) (aa_q (Cj.aa)) (Ext.refl _) X0 (Ext.refl _) (hT.ext hE)).mono fun _ _ h => h.eq (by kernel_rfl) rfl (show _ = [p5] by kernel_rfl)).mono ?_);rintro e Wk ⟨Bar, Bay, Qb, Pi, Pb, Rq, rfl, B3l, Xy, B3z, Yi, Wx, hb⟩;refine mv9 hb hE B0 Ba Bf Bm Bg Cj E0 Ei fun hE B0 Ba Bf Bm Bg Cj E0 Ei=>?_;refine mv2 hb F2 Es fun F2 Es=>?_;have Yt := hb.size;obtain ⟨Rm, Rl, rfl, rfl, P2⟩ := va_of B3l (by kernel_rfl);have Ik := Xy _ rfl;have B6e := P2.lt;have Mz : PcsS (fun k => Zg.heap.size ≤ k ∧ k < Wk.heap.size) Wk Pi Pb ([p5]) := PcsS.both B3z;have hS := B7.trans B0;refine ⟨_, rfl, hS, ?_⟩;refine wW 4 (.tuple #[.agg #[iv 1, iv 1, sv Rm Rl 24 Qb, .slice Pi Pb Rq], iv 0]) 5 (.agg #[iv 1, iv 1, sv Rm Rl 24 Qb, .slice Pi Pb Rq]) hR hS ?_;refine wV 6 (iv 0) hR hS ?_;refine wS 8 hR (sn_setK4 (O := U0) (j := 0) (v0 := iv 1) (v1 := iv 1) (v2 := sv Rm Rl 24 Qb) (v3 := .slice Pi Pb Rq) (ex_store (p := pw U0 0) (v := .agg #[iv 1, iv 1, sv Rm Rl 24 Qb, .slice Pi Pb Rq]) rfl (by kernel_rfl) (by kernel_rfl) (st53 E0.1 E0.2 Ei.1 Ei.2 F2.1 F2.2 Es.1 Es.2)) E0 Ei F2 Es ?_);intro X1 ho E0 Ei F2 Es hk;replace hE := ho.ext hE (by omega);replace B0 := ho.ext B0 (T (T B6 (T D6 Dy)) (Nat.le_of_eq Ht));have q9 := ho.bx Jl (by omega);replace Ba := q9 Ba;replace Bf := q9 Bf;replace Bm := q9 Bm;replace Bg := q9 Bg;clear q9;replace Cj := ho.va (by omega) Cj;replace P2 := ho.va (Nat.ne_of_lt (Nat.lt_of_lt_of_le S1 Ik)) P2;replace Mz := Mz.turn ho (fun h => absurd h.1 (Nat.not_le_of_lt (Nat.lt_of_lt_of_le S1 (Nat.le_refl _))));have Z5 := Nat.le_of_eq ho.size.symm;clear ho hk;refine ⟨(B7.trans B0), ?_⟩;refine wV 9 (iv 0) hR (B7.trans B0) ?_;refine we hL hR hK ?_;have W7 := PcsS.pcs (Cw.ext B0);have B42 := Ext.refl X1;have Yk := PcsS.pcs Mz;exact zl hJ [3, 4, 5, 6, 7, 8, 9] ⟨Sx, Jl, Rm, Rl, Qb, Pi, Pb, Rq, U0, rfl, hE, (B0.trans B42), W7, Cj, Ba, Bf, Bm, Bg, Yi, Wx, P2, Yk, E0, Ei, F2, Es, (T B6 (T D6 (T Dy (T Nk (T Yt Z5))))), (T (T B6 D6) Nm), (T B6 (Nat.le_of_eq Mr)), (T (T B6 (T D6 (T Dy Nk))) Ik), (T (T B6 (T D6 Dy)) (Nat.le_of_eq Ht)), Lib.hid (by omega), Lib.hid (Nat.ne_of_lt (Nat.lt_of_lt_of_le L3 (T Nk Ik))), Lib.hid (by omega), Lib.hid (Nat.ne_of_lt (Nat.lt_of_lt_of_le G2 (T (T Dy Nk) Ik))), Lib.hid (by omega), Lib.hid (Nat.ne_of_gt (Nat.lt_of_lt_of_le S1 Ik))⟩
    ·
     refine sw 53 #[iv 0, iv 0, .slice none 0 0, .slice none 0 0] ?_;intro U1 Baa Kb B4p hb hbx;have ⟨Cx, Dg, Dk, De⟩ := bq4 hbx;refine mv6 hb hE B0 Ba Bf Bm Bg fun hE B0 Ba Bf Bm Bg=>?_;have Md := hb.size;have M8 := Cx.lt;refine ⟨(B7.trans B0), ?_⟩;refine wC 0 73 #[iv 7] hR ((row_c 7 _).mono ?_);rintro e B03 ⟨B2t, rfl, Nd, B16, hb⟩;refine mv9 hb hE B0 Ba Bf Bm Bg Cx Dg Dk fun hE B0 Ba Bf Bm Bg Cx Dg Dk=>?_;replace De := De.x hb;have L1 := hb.size;have Hw := B16.va (show Globe.validL (rowL 7) = true by kernel_rfl);have B0z := Hw.lt;refine ⟨_, rfl, B7.trans B0, ?_⟩;have Ur : PcsAt B03 (some ⟨Jl, 0, none⟩) 1 [p5] := PcsB.at (PcsB.cons (p := p5) (o := 0) (o' := 4) rfl (Ba.1) (Bf.1) (Bm.1) (Bg.1) (AA.ext (aa_q (Cp.aa)) (B7.trans B0)) PcsB.nil) rfl (by omega);refine wC 3 13 #[iv 1, .agg #[sv B2t 0 24 24], sv Jl 0 1 1] hR (((Build_c (id := 1) _ _ (by omega) (aa_q (Hw.aa)) (Ext.refl _) Ur (Ext.refl _) (hT.ext hE)).mono fun _ _ h => h.eq (by kernel_rfl) rfl (show _ = [p5] by kernel_rfl)).mono ?_);rintro e Ut ⟨Bbh, B9z, S6, Q5, Po, Qi, rfl, B1e, Vm, B2i, Xt, V2, hb⟩;refine mv9 hb hE B0 Ba Bf Bm Bg Cx Dg Dk fun hE B0 Ba Bf Bm Bg Cx Dg Dk=>?_;refine mv2 hb De Hw fun De Hw=>?_;have Yw := hb.size;obtain ⟨Ra, Sh, rfl, rfl, Nl⟩ := va_of B1e (by kernel_rfl);have Ii := Vm _ rfl;have B6r := Nl.lt;have Mp : PcsS (fun k => B03.heap.size ≤ k ∧ k < Ut.heap.size) Ut Q5 Po ([p5]) := PcsS.both B2i;have hS := B7.trans B0;refine ⟨_, rfl, hS, ?_⟩;refine wW 4 (.tuple #[.agg #[iv 1, iv 1, sv Ra Sh 24 S6, .slice Q5 Po Qi], iv 0]) 5 (.agg #[iv 1, iv 1, sv Ra Sh 24 S6, .slice Q5 Po Qi]) hR hS ?_;refine wV 6 (iv 0) hR hS ?_;refine wS 8 hR (sn_setK4 (O := U1) (j := 0) (v0 := iv 1) (v1 := iv 1) (v2 := sv Ra Sh 24 S6) (v3 := .slice Q5 Po Qi) (ex_store (p := pw U1 0) (v := .agg #[iv 1, iv 1, sv Ra Sh 24 S6, .slice Q5 Po Qi]) rfl (by kernel_rfl) (by kernel_rfl) (st53 Cx.1 Cx.2 Dg.1 Dg.2 Dk.1 Dk.2 De.1 De.2)) Cx Dg Dk De ?_);intro V9 ho Cx Dg Dk De hk;replace hE := ho.ext hE (by omega);replace B0 := ho.ext B0 (T (T B6 D6) (Nat.le_of_eq Kb));have q9 := ho.bx Jl (by omega);replace Ba := q9 Ba;replace Bf := q9 Bf;replace Bm := q9 Bm;replace Bg := q9 Bg;clear q9;replace Hw := ho.va (by omega) Hw;replace Nl := ho.va (Nat.ne_of_lt (Nat.lt_of_lt_of_le M8 (T L1 Ii))) Nl;replace Mp := Mp.turn ho (fun h => absurd h.1 (Nat.not_le_of_lt (Nat.lt_of_lt_of_le M8 L1)));have B39 := Nat.le_of_eq ho.size.symm;clear ho hk;refine ⟨(B7.trans B0), ?_⟩;refine wV 9 (iv 0) hR (B7.trans B0) ?_;refine we hL hR hK ?_;have Vj := PcsS.pcs (Cw.ext B0);have B38 := Ext.refl V9;have Ww := PcsS.pcs Mp;exact zl hJ [3, 4, 5, 6, 7, 8, 9] ⟨B2t, Jl, Ra, Sh, S6, Q5, Po, Qi, U1, rfl, hE, (B0.trans B38), Vj, Hw, Ba, Bf, Bm, Bg, Xt, V2, Nl, Ww, Cx, Dg, Dk, De, (T B6 (T D6 (T Md (T L1 (T Yw B39))))), (T (T B6 (T D6 Md)) Nd), (T B6 (Nat.le_of_eq Mr)), (T (T B6 (T D6 (T Md L1))) Ii), (T (T B6 D6) (Nat.le_of_eq Kb)), Lib.hid (by omega), Lib.hid (Nat.ne_of_lt (Nat.lt_of_lt_of_le B0z Ii)), Lib.hid (by omega), Lib.hid (Nat.ne_of_lt (Nat.lt_of_lt_of_le G2 (T (T Md L1) Ii))), Lib.hid (by omega), Lib.hid (Nat.ne_of_gt (Nat.lt_of_lt_of_le M8 (T L1 Ii)))⟩
   ·
    refine sw 53 #[iv 0, iv 0, .slice none 0 0, .slice none 0 0] ?_;intro Mg B9s J4 B5n hb hbx;have ⟨Bo, Bs, Bv, Bw⟩ := bq4 hbx;refine mv2 hb hE B0 fun hE B0=>?_;have Ji := hb.size;have Eg := Bo.lt;refine ⟨(B7.trans B0), ?_⟩;refine zw 0 2 hR ?_ ?_
    ·
     refine sc 73 #[iv 7] ((row_c 7 _).mono ?_);rintro e Ba9 ⟨Yv, rfl, Si, Yr, hb⟩;refine mv6 hb hE B0 Bo Bs Bv Bw fun hE B0 Bo Bs Bv Bw=>?_;have Jf := hb.size;have Fs := Yr.va (show Globe.validL (rowL 7) = true by kernel_rfl);have Uc := Fs.lt;refine ⟨_, rfl, B7.trans B0, ?_⟩;refine wS 2 hR (sn_newS (us := #[iv 5, iv 200, .bool false, sv Mf 0 24 24]) (t := 49) (k := 1) (c := 1) (by kernel_rfl) ?_);intro Ss Zf Lm B4h hb hbx;have ⟨Fn, Gs, Gq, H0⟩ := bq4 hbx;refine mv7 hb hE B0 Bo Bs Bv Bw Fs fun hE B0 Bo Bs Bv Bw Fs=>?_;have Ky := hb.size;have Zc := Fn.lt;refine ⟨(B7.trans B0), ?_⟩;have V6 : PcsAt Zf (some ⟨Ss, 0, none⟩) 1 [p5] := PcsB.at (PcsB.cons (p := p5) (o := 0) (o' := 4) rfl (Fn.1) (Gs.1) (Gq.1) (H0.1) (AA.ext (aa_q (Cp.aa)) (B7.trans B0)) PcsB.nil) rfl (by omega);refine wC 3 13 #[iv 1, .agg #[sv Yv 0 24 24], sv Ss 0 1 1] hR (((Build_c (id := 1) _ _ (by omega) (aa_q (Fs.aa)) (Ext.refl _) V6 (Ext.refl _) (hT.ext hE)).mono fun _ _ h => h.eq (by kernel_rfl) rfl (show _ = [p5] by kernel_rfl)).mono ?_);rintro e Yj ⟨Ba3, B9h, Qk, Pd, Px, Ri, rfl, Zs, X4, B0v, Ve, Xv, hb⟩;refine mv9 hb hE B0 Bo Bs Bv Bw Fs Fn Gs fun hE B0 Bo Bs Bv Bw Fs Fn Gs=>?_;refine mv2 hb Gq H0 fun Gq H0=>?_;have Yz := hb.size;obtain ⟨S3, Rx, rfl, rfl, Np⟩ := va_of Zs (by kernel_rfl);have Io := X4 _ rfl;have B72 := Np.lt;have N1 : PcsS (fun k => Zf.heap.size ≤ k ∧ k < Yj.heap.size) Yj Pd Px ([p5]) := PcsS.both B0v;have hS := B7.trans B0;refine ⟨_, rfl, hS, ?_⟩;refine wW 4 (.tuple #[.agg #[iv 1, iv 1, sv S3 Rx 24 Qk, .slice Pd Px Ri], iv 0]) 5 (.agg #[iv 1, iv 1, sv S3 Rx 24 Qk, .slice Pd Px Ri]) hR hS ?_;refine wV 6 (iv 0) hR hS ?_;refine wS 8 hR (sn_setK4 (O := Mg) (j := 0) (v0 := iv 1) (v1 := iv 1) (v2 := sv S3 Rx 24 Qk) (v3 := .slice Pd Px Ri) (ex_store (p := pw Mg 0) (v := .agg #[iv 1, iv 1, sv S3 Rx 24 Qk, .slice Pd Px Ri]) rfl (by kernel_rfl) (by kernel_rfl) (st53 Bo.1 Bo.2 Bs.1 Bs.2 Bv.1 Bv.2 Bw.1 Bw.2)) Bo Bs Bv Bw ?_);intro X3 ho Bo Bs Bv Bw hk;replace hE := ho.ext hE (by omega);replace B0 := ho.ext B0 (T B6 (Nat.le_of_eq J4));replace Fs := ho.va (by omega) Fs;have q9 := ho.bx Ss (by omega);replace Fn := q9 Fn;replace Gs := q9 Gs;replace Gq := q9 Gq;replace H0 := q9 H0;clear q9;replace Np := ho.va (Nat.ne_of_lt (Nat.lt_of_lt_of_le Eg (T (T Jf Ky) Io))) Np;replace N1 := N1.turn ho (fun h => absurd h.1 (Nat.not_le_of_lt (Nat.lt_of_lt_of_le Eg (T Jf Ky))));have Z3 := Nat.le_of_eq ho.size.symm;clear ho hk;refine ⟨(B7.trans B0), ?_⟩;refine wV 9 (iv 0) hR (B7.trans B0) ?_;refine we hL hR hK ?_;have Wq := PcsS.pcs (Cw.ext B0);have B2j := Ext.refl X3;have Wu := PcsS.pcs N1;exact zl hJ [3, 4, 5, 6, 7, 8, 9] ⟨Yv, Ss, S3, Rx, Qk, Pd, Px, Ri, Mg, rfl, hE, (B0.trans B2j), Wq, Fs, Fn, Gs, Gq, H0, Ve, Xv, Np, Wu, Bo, Bs, Bv, Bw, (T B6 (T Ji (T Jf (T Ky (T Yz Z3))))), (T (T B6 Ji) Si), (T (T B6 (T Ji Jf)) (Nat.le_of_eq Lm)), (T (T B6 (T Ji (T Jf Ky))) Io), (T B6 (Nat.le_of_eq J4)), Lib.hid (by omega), Lib.hid (Nat.ne_of_lt (Nat.lt_of_lt_of_le Uc (T Ky Io))), Lib.hid (by omega), Lib.hid (Nat.ne_of_lt (Nat.lt_of_lt_of_le Zc Io)), Lib.hid (by omega), Lib.hid (Nat.ne_of_gt (Nat.lt_of_lt_of_le Eg (T (T Jf Ky) Io)))⟩
    ·
     refine sn_newS (us := #[iv 5, iv 200, .bool false, sv Mf 0 24 24]) (t := 49) (k := 1) (c := 1) (by kernel_rfl) ?_;intro Sw Bbe N0 B5r hb hbx;have ⟨E4, Ez, F1, F8⟩ := bq4 hbx;refine mv6 hb hE B0 Bo Bs Bv Bw fun hE B0 Bo Bs Bv Bw=>?_;have Jb := hb.size;have Uo := E4.lt;refine ⟨(B7.trans B0), ?_⟩;refine wC 0 73 #[iv 7] hR ((row_c 7 _).mono ?_);rintro e B20 ⟨B11, rfl, Nu, B2n, hb⟩;refine mv9 hb hE B0 Bo Bs Bv Bw E4 Ez F1 fun hE B0 Bo Bs Bv Bw E4 Ez F1=>?_;replace F8 := F8.x hb;have Kq := hb.size;have Ib := B2n.va (show Globe.validL (rowL 7) = true by kernel_rfl);have Zn := Ib.lt;refine ⟨_, rfl, B7.trans B0, ?_⟩;have Xe : PcsAt B20 (some ⟨Sw, 0, none⟩) 1 [p5] := PcsB.at (PcsB.cons (p := p5) (o := 0) (o' := 4) rfl (E4.1) (Ez.1) (F1.1) (F8.1) (AA.ext (aa_q (Cp.aa)) (B7.trans B0)) PcsB.nil) rfl (by omega);refine wC 3 13 #[iv 1, .agg #[sv B11 0 24 24], sv Sw 0 1 1] hR (((Build_c (id := 1) _ _ (by omega) (aa_q (Ib.aa)) (Ext.refl _) Xe (Ext.refl _) (hT.ext hE)).mono fun _ _ h => h.eq (by kernel_rfl) rfl (show _ = [p5] by kernel_rfl)).mono ?_);rintro e Uu ⟨B9m, Bad, Rb, Ps, Pj, Qg, rfl, B1f, Ux, B2f, Yh, Xp, hb⟩;refine mv9 hb hE B0 Bo Bs Bv Bw E4 Ez F1 fun hE B0 Bo Bs Bv Bw E4 Ez F1=>?_;refine mv2 hb F8 Ib fun F8 Ib=>?_;have Zu := hb.size;obtain ⟨Rh, S5, rfl, rfl, Nz⟩ := va_of B1f (by kernel_rfl);have J1 := Ux _ rfl;have B6j := Nz.lt;have My : PcsS (fun k => B20.heap.size ≤ k ∧ k < Uu.heap.size) Uu Ps Pj ([p5]) := PcsS.both B2f;have hS := B7.trans B0;refine ⟨_, rfl, hS, ?_⟩;refine wW 4 (.tuple #[.agg #[iv 1, iv 1, sv Rh S5 24 Rb, .slice Ps Pj Qg], iv 0]) 5 (.agg #[iv 1, iv 1, sv Rh S5 24 Rb, .slice Ps Pj Qg]) hR hS ?_;refine wV 6 (iv 0) hR hS ?_;refine wS 8 hR (sn_setK4 (O := Mg) (j := 0) (v0 := iv 1) (v1 := iv 1) (v2 := sv Rh S5 24 Rb) (v3 := .slice Ps Pj Qg) (ex_store (p := pw Mg 0) (v := .agg #[iv 1, iv 1, sv Rh S5 24 Rb, .slice Ps Pj Qg]) rfl (by kernel_rfl) (by kernel_rfl) (st53 Bo.1 Bo.2 Bs.1 Bs.2 Bv.1 Bv.2 Bw.1 Bw.2)) Bo Bs Bv Bw ?_);intro Xb ho Bo Bs Bv Bw hk;replace hE := ho.ext hE (by omega);replace B0 := ho.ext B0 (T B6 (Nat.le_of_eq J4));have q9 := ho.bx Sw (by omega);replace E4 := q9 E4;replace Ez := q9 Ez;replace F1 := q9 F1;replace F8 := q9 F8;clear q9;replace Ib := ho.va (by omega) Ib;replace Nz := ho.va (Nat.ne_of_lt (Nat.lt_of_lt_of_le Eg (T (T Jb Kq) J1))) Nz;replace My := My.turn ho (fun h => absurd h.1 (Nat.not_le_of_lt (Nat.lt_of_lt_of_le Eg (T Jb Kq))));have B1r := Nat.le_of_eq ho.size.symm;clear ho hk;refine ⟨(B7.trans B0), ?_⟩;refine wV 9 (iv 0) hR (B7.trans B0) ?_;refine we hL hR hK ?_;have Vo := PcsS.pcs (Cw.ext B0);have Zq := Ext.refl Xb;have Yf := PcsS.pcs My;exact zl hJ [3, 4, 5, 6, 7, 8, 9] ⟨B11, Sw, Rh, S5, Rb, Ps, Pj, Qg, Mg, rfl, hE, (B0.trans Zq), Vo, Ib, E4, Ez, F1, F8, Yh, Xp, Nz, Yf, Bo, Bs, Bv, Bw, (T B6 (T Ji (T Jb (T Kq (T Zu B1r))))), (T (T B6 (T Ji Jb)) Nu), (T (T B6 Ji) (Nat.le_of_eq N0)), (T (T B6 (T Ji (T Jb Kq))) J1), (T B6 (Nat.le_of_eq J4)), Lib.hid (by omega), Lib.hid (Nat.ne_of_lt (Nat.lt_of_lt_of_le Zn J1)), Lib.hid (by omega), Lib.hid (Nat.ne_of_lt (Nat.lt_of_lt_of_le Uo (T Kq J1))), Lib.hid (by omega), Lib.hid (Nat.ne_of_gt (Nat.lt_of_lt_of_le Eg (T (T Jb Kq) J1)))⟩
  ·
   clear hE B0;rintro L ws Xm ⟨J7, G4, Dv, Ff, Fi, E9, Ec, Fd, Fu, rfl, hE, B0, Rj, Bq, C0, C3, C2, C4, Rz, K6, Ed, Fy, Cb, Cu, Ct, Cr, Mi, B8w, B98, B8g, B6s, B7k, B8v, B7w, B8m, B8k, B66⟩;have Bz := Ext.refl Xm;have B97 := Bq.lt;have B95 := C0.lt;have B78 := Ed.lt;have B7h := Cb.lt;refine zq (zc (zp (pU (.agg #[iv 1, iv 1, sv Dv Ff 24 Fi, .slice E9 Ec Fd]) (xl (ld53 (Cb.1) (Cu.1) (Ct.1) (Cr.1))) ?_)));refine pS (sc 14 #[.agg #[iv 1, iv 1, sv Dv Ff 24 Fi, .slice E9 Ec Fd]] ((Missing_v (id := 1) (ver := 1) _ _ (by omega) (aa_q (Ed.aa)) (Ext.refl _) (Fy) (Ext.refl _) (hT.ext hE) (by kernel_rfl)).mono ?_));rintro e Baq ⟨Pr, Pn, Pk, rfl, Kt, hb⟩;refine mv2 hb hE Bz fun hE Bz=>?_;have Ku := hb.size;have B1z := Kt.lt;refine ⟨_, rfl, pD (.tuple #[.agg #[sv Pr Pn 24 Pk], iv 0]) (.agg #[sv Pr Pn 24 Pk]) ?_⟩;refine pT (iv 0) ?_;refine pS (sw 33 #[.slice none 0 0] ?_);intro Q3 B5d Mw B5u hb hbx;have Fo := bq1 hbx;refine mv3 hb hE Bz Kt fun hE Bz Kt=>?_;have Nb := hb.size;have B6f := Fo.lt;refine pP (zF Q3 0 (sv Pr Pn 24 Pk) (st33 Fo.1 Fo.2) Fo ?_);intro Mh ho Fo hk;replace hE := ho.ext hE (by omega);replace Bz := ho.ext Bz (T Ku (Nat.le_of_eq Mw));replace Kt := ho.va (by omega) Kt;have Ns := Nat.le_of_eq ho.size.symm;clear ho hk;refine pT (iv 0) ?_;refine pl_nil (qw_then ?_);refine cw_seq ?_;have B4 := Ext.refl Mh;refine cw_join (fun ws' Y => ∃ Kc Ij : Nat, ∃ Kh Kl : Nat, ∃ Ja : Option Addr, ∃ J8 K2 It : Nat, ws' = [(3, pw Jt 0), (4, pw J2 0), (5, iv 0), (6, pw I7 0), (7, iv 0), (8, pw Fu 0), (9, iv 0), (10, pw Q3 0), (11, iv 0), (12, pw It 0), (13, iv 0)] ∧ Ext w Y ∧ Ext Mh Y ∧ PcsAt Y Fv Fq ([p5', p4', p6]) ∧ VA Y Kc 0 (rowL 2) ∧ J8 ≤ K2 ∧ Pl Ja ∧ VA Y Ij Kh (rowL 7) ∧ PcsAt Y Ja J8 ([p5]) ∧ BoxAt Y It 0 (iv 1) ∧ BoxAt Y It 1 (iv 1) ∧ BoxAt Y It 2 (sv Ij Kh 24 Kl) ∧ BoxAt Y It 3 (.slice Ja J8 K2) ∧ Mh.heap.size ≤ Y.heap.size ∧ Mh.heap.size ≤ Kc ∧ Mh.heap.size ≤ Ij ∧ Mh.heap.size ≤ It ∧ Hid (Kc ≠ Ij) ∧ Hid (Kc ≠ It) ∧ Hid (Ij ≠ It)) (fun hJ => ?_) ?_
   ·
    refine dE Tz42_2 (fun w' => Ext Xm w') (Ext.drew (Bz.trans B4)) (fun ops Q Bao hb hL hR hK => ?_);refine mv2 hb hE B4 fun hE B4=>?_;have D8 := hb.size;refine wM 0 (.agg #[iv 1, iv 1, sv Dv Ff 24 Fi, .slice E9 Ec Fd]) hR (fun w hS => ld53 (Cb.c hS) (Cu.c hS) (Ct.c hS) (Cr.c hS)) (Bz.trans B4) ?_;refine zw 1 7 hR ?_ ?_
    ·
     refine sc 73 #[iv 2] ((row_c 2 _).mono ?_);rintro e B5m ⟨Kc, rfl, Ul, B1u, hb⟩;refine mv2 hb hE B4 fun hE B4=>?_;have Hs := hb.size;have C8 := B1u.va (show Globe.validL (rowL 2) = true by kernel_rfl);have Lc := C8.lt;have hS := Bz.trans B4;refine ⟨_, rfl, hS, ?_⟩;refine wV 2 (.agg #[iv 7, iv 150, .bool false, sv Kc 0 24 24]) hR hS ?_;refine zw 3 7 hR ?_ ?_
     ·
      refine sc 36 #[.agg #[iv 1, iv 1, sv Dv Ff 24 Fi, .slice E9 Ec Fd], .agg #[iv 7, iv 150, .bool false, sv Kc 0 24 24]] (((Next_c (id := 1) (ver := 1) (x := p7) _ _ (by omega) (aa_q (Ed.aa)) (Bz.trans B4) (Fy) (Bz.trans B4) (hT.ext hE) K6 (aa_q (C8.aa)) (Ext.refl _)).mono fun _ _ h => h.eq (by kernel_rfl) (show _ = (1 : Int) by kernel_rfl) (show _ = [p5] by kernel_rfl)).mono ?_);rintro e B36 ⟨Bb8, Bah, Kl, Ja, J8, K2, rfl, B1t, Xl, B0x, Rc, Sk, hb⟩;refine mv3 hb hE B4 C8 fun hE B4 C8=>?_;have Kw := hb.size;obtain ⟨Ij, Kh, rfl, rfl, Iu⟩ := va_of B1t (by kernel_rfl);have Nv := Xl _ rfl;have Ue := Iu.lt;have K0 : PcsS (fun k => B5m.heap.size ≤ k ∧ k < B36.heap.size) B36 Ja J8 ([p5]) := PcsS.both B0x;have hS := Bz.trans B4;refine ⟨_, rfl, hS, ?_⟩;refine wW 4 (.tuple #[.agg #[iv 1, iv 1, sv Ij Kh 24 Kl, .slice Ja J8 K2], iv 0]) 5 (.agg #[iv 1, iv 1, sv Ij Kh 24 Kl, .slice Ja J8 K2]) hR hS ?_;refine wV 6 (iv 0) hR hS ?_;refine wN 7 53 #[iv 0, iv 0, .slice none 0 0, .slice none 0 0] hR ?_;intro It B5j Gc B4i hb hbx;have ⟨Dp, F3, F0, F4⟩ := bq4 hbx;refine mv5 hb hE B4 C8 Iu K0 fun hE B4 C8 Iu K0=>?_;have Ze := hb.size;have B7z := Dp.lt;refine ⟨(Bz.trans B4), ?_⟩;refine wS 8 hR (sn_setK4 (O := It) (j := 0) (v0 := iv 1) (v1 := iv 1) (v2 := sv Ij Kh 24 Kl) (v3 := .slice Ja J8 K2) (ex_store (p := pw It 0) (v := .agg #[iv 1, iv 1, sv Ij Kh 24 Kl, .slice Ja J8 K2]) rfl (by kernel_rfl) (by kernel_rfl) (st53 Dp.1 Dp.2 F3.1 F3.2 F0.1 F0.2 F4.1 F4.2)) Dp F3 F0 F4 ?_);intro Up ho Dp F3 F0 F4 hk;replace hE := ho.ext hE (by omega);replace B4 := ho.ext B4 (T (T D8 (T Hs Kw)) (Nat.le_of_eq Gc));replace C8 := ho.va (by omega) C8;replace Iu := ho.va (by omega) Iu;replace K0 := K0.turn ho (fun h => absurd h.2 (Nat.not_lt_of_le (Nat.le_of_eq Gc)));have Zl := Nat.le_of_eq ho.size.symm;clear ho hk;refine ⟨(Bz.trans B4), ?_⟩;refine wV 9 (iv 0) hR (Bz.trans B4) ?_;refine we hL hR hK ?_;have B1p := B0.trans Bz;have G6 := PcsS.pcs (Cw.ext (B1p.trans B4));have Z1 := Ext.refl Up;have Mo := PcsS.pcs K0;exact zl hJ [3, 4, 5, 6, 7, 8, 9, 10, 11, 12, 13] ⟨Kc, Ij, Kh, Kl, Ja, J8, K2, It, rfl, hE, (B4.trans Z1), G6, C8, Rc, Sk, Iu, Mo, Dp, F3, F0, F4, (T D8 (T Hs (T Kw (T Ze Zl)))), (T D8 Ul), (T (T D8 Hs) Nv), (T (T D8 (T Hs Kw)) (Nat.le_of_eq Gc)), Lib.hid (Nat.ne_of_lt (Nat.lt_of_lt_of_le Lc Nv)), Lib.hid (by omega), Lib.hid (by omega)⟩
     ·
      refine sw 53 #[iv 0, iv 0, .slice none 0 0, .slice none 0 0] ?_;intro So B5g Ki B5i hb hbx;have ⟨E5, Er, Ew, En⟩ := bq4 hbx;refine mv3 hb hE B4 C8 fun hE B4 C8=>?_;have Qx := hb.size;have Qd := E5.lt;refine ⟨(Bz.trans B4), ?_⟩;refine wC 3 36 #[.agg #[iv 1, iv 1, sv Dv Ff 24 Fi, .slice E9 Ec Fd], .agg #[iv 7, iv 150, .bool false, sv Kc 0 24 24]] hR (((Next_c (id := 1) (ver := 1) (x := p7) _ _ (by omega) (aa_q (Ed.aa)) (Bz.trans B4) (Fy) (Bz.trans B4) (hT.ext hE) K6 (aa_q (C8.aa)) (Ext.refl _)).mono fun _ _ h => h.eq (by kernel_rfl) (show _ = (1 : Int) by kernel_rfl) (show _ = [p5] by kernel_rfl)).mono ?_);rintro e Y7 ⟨Bbb, Bav, Rr, P4, Ph, S0, rfl, B30, Ym, B3c, Vz, Uq, hb⟩;refine mv7 hb hE B4 C8 E5 Er Ew En fun hE B4 C8 E5 Er Ew En=>?_;have Zi := hb.size;obtain ⟨Qe, S7, rfl, rfl, Ng⟩ := va_of B30 (by kernel_rfl);have Js := Ym _ rfl;have B85 := Ng.lt;have Mt : PcsS (fun k => B5g.heap.size ≤ k ∧ k < Y7.heap.size) Y7 P4 Ph ([p5]) := PcsS.both B3c;have hS := Bz.trans B4;refine ⟨_, rfl, hS, ?_⟩;refine wW 4 (.tuple #[.agg #[iv 1, iv 1, sv Qe S7 24 Rr, .slice P4 Ph S0], iv 0]) 5 (.agg #[iv 1, iv 1, sv Qe S7 24 Rr, .slice P4 Ph S0]) hR hS ?_;refine wV 6 (iv 0) hR hS ?_;refine wS 8 hR (sn_setK4 (O := So) (j := 0) (v0 := iv 1) (v1 := iv 1) (v2 := sv Qe S7 24 Rr) (v3 := .slice P4 Ph S0) (ex_store (p := pw So 0) (v := .agg #[iv 1, iv 1, sv Qe S7 24 Rr, .slice P4 Ph S0]) rfl (by kernel_rfl) (by kernel_rfl) (st53 E5.1 E5.2 Er.1 Er.2 Ew.1 Ew.2 En.1 En.2)) E5 Er Ew En ?_);intro Wm ho E5 Er Ew En hk;replace hE := ho.ext hE (by omega);replace B4 := ho.ext B4 (T (T D8 Hs) (Nat.le_of_eq Ki));replace C8 := ho.va (by omega) C8;replace Ng := ho.va (Nat.ne_of_lt (Nat.lt_of_lt_of_le Qd Js)) Ng;replace Mt := Mt.turn ho (fun h => absurd h.1 (Nat.not_le_of_lt (Nat.lt_of_lt_of_le Qd (Nat.le_refl _))));have B2c := Nat.le_of_eq ho.size.symm;clear ho hk;refine ⟨(Bz.trans B4), ?_⟩;refine wV 9 (iv 0) hR (Bz.trans B4) ?_;refine we hL hR hK ?_;have Z2 := B0.trans Bz;have Vw := PcsS.pcs (Cw.ext (Z2.trans B4));have B2w := Ext.refl Wm;have Va := PcsS.pcs Mt;exact zl hJ [3, 4, 5, 6, 7, 8, 9, 10, 11, 12, 13] ⟨Kc, Qe, S7, Rr, P4, Ph, S0, So, rfl, hE, (B4.trans B2w), Vw, C8, Vz, Uq, Ng, Va, E5, Er, Ew, En, (T D8 (T Hs (T Qx (T Zi B2c)))), (T D8 Ul), (T (T D8 (T Hs Qx)) Js), (T (T D8 Hs) (Nat.le_of_eq Ki)), Lib.hid (Nat.ne_of_lt (Nat.lt_of_lt_of_le Lc (T Qx Js))), Lib.hid (by omega), Lib.hid (Nat.ne_of_gt (Nat.lt_of_lt_of_le Qd Js))⟩
    ·
     refine sw 53 #[iv 0, iv 0, .slice none 0 0, .slice none 0 0] ?_;intro Sr B9y Na B5v hb hbx;have ⟨Cz, Dc, Di, Dd⟩ := bq4 hbx;refine mv2 hb hE B4 fun hE B4=>?_;have Rg := hb.size;have M9 := Cz.lt;refine ⟨(Bz.trans B4), ?_⟩;refine wC 1 73 #[iv 2] hR ((row_c 2 _).mono ?_);rintro e B5c ⟨Wr, rfl, Ql, B2y, hb⟩;refine mv6 hb hE B4 Cz Dc Di Dd fun hE B4 Cz Dc Di Dd=>?_;have Mm := hb.size;have Ia := B2y.va (show Globe.validL (rowL 2) = true by kernel_rfl);have B02 := Ia.lt;have hS := Bz.trans B4;refine ⟨_, rfl, hS, ?_⟩;refine wV 2 (.agg #[iv 7, iv 150, .bool false, sv Wr 0 24 24]) hR hS ?_;refine wC 3 36 #[.agg #[iv 1, iv 1, sv Dv Ff 24 Fi, .slice E9 Ec Fd], .agg #[iv 7, iv 150, .bool false, sv Wr 0 24 24]] hR (((Next_c (id := 1) (ver := 1) (x := p7) _ _ (by omega) (aa_q (Ed.aa)) (Bz.trans B4) (Fy) (Bz.trans B4) (hT.ext hE) K6 (aa_q (Ia.aa)) (Ext.refl _)).mono fun _ _ h => h.eq (by kernel_rfl) (show _ = (1 : Int) by kernel_rfl) (show _ = [p5] by kernel_rfl)).mono ?_);rintro e Xc ⟨Bbg, Bat, Qa, Pe, Q7, Q9, rfl, B2s, Vc, Zb, Wy, Xq, hb⟩;refine mv7 hb hE B4 Cz Dc Di Dd Ia fun hE B4 Cz Dc Di Dd Ia=>?_;have B3m := hb.size;obtain ⟨Qq, S9, rfl, rfl, Nj⟩ := va_of B2s (by kernel_rfl);have Jv := Vc _ rfl;have B6h := Nj.lt;have N2 : PcsS (fun k => B5c.heap.size ≤ k ∧ k < Xc.heap.size) Xc Pe Q7 ([p5]) := PcsS.both Zb;have hS := Bz.trans B4;refine ⟨_, rfl, hS, ?_⟩;refine wW 4 (.tuple #[.agg #[iv 1, iv 1, sv Qq S9 24 Qa, .slice Pe Q7 Q9], iv 0]) 5 (.agg #[iv 1, iv 1, sv Qq S9 24 Qa, .slice Pe Q7 Q9]) hR hS ?_;refine wV 6 (iv 0) hR hS ?_;refine wS 8 hR (sn_setK4 (O := Sr) (j := 0) (v0 := iv 1) (v1 := iv 1) (v2 := sv Qq S9 24 Qa) (v3 := .slice Pe Q7 Q9) (ex_store (p := pw Sr 0) (v := .agg #[iv 1, iv 1, sv Qq S9 24 Qa, .slice Pe Q7 Q9]) rfl (by kernel_rfl) (by kernel_rfl) (st53 Cz.1 Cz.2 Dc.1 Dc.2 Di.1 Di.2 Dd.1 Dd.2)) Cz Dc Di Dd ?_);intro Y8 ho Cz Dc Di Dd hk;replace hE := ho.ext hE (by omega);replace B4 := ho.ext B4 (T D8 (Nat.le_of_eq Na));replace Ia := ho.va (by omega) Ia;replace Nj := ho.va (Nat.ne_of_lt (Nat.lt_of_lt_of_le M9 (T Mm Jv))) Nj;replace N2 := N2.turn ho (fun h => absurd h.1 (Nat.not_le_of_lt (Nat.lt_of_lt_of_le M9 Mm)));have B1k := Nat.le_of_eq ho.size.symm;clear ho hk;refine ⟨(Bz.trans B4), ?_⟩;refine wV 9 (iv 0) hR (Bz.trans B4) ?_;refine we hL hR hK ?_;have B3n := B0.trans Bz;have Xz := PcsS.pcs (Cw.ext (B3n.trans B4));have B1h := Ext.refl Y8;have Vl := PcsS.pcs N2;exact zl hJ [3, 4, 5, 6, 7, 8, 9, 10, 11, 12, 13] ⟨Wr, Qq, S9, Qa, Pe, Q7, Q9, Sr, rfl, hE, (B4.trans B1h), Xz, Ia, Wy, Xq, Nj, Vl, Cz, Dc, Di, Dd, (T D8 (T Rg (T Mm (T B3m B1k)))), (T (T D8 Rg) Ql), (T (T D8 (T Rg Mm)) Jv), (T D8 (Nat.le_of_eq Na)), Lib.hid (Nat.ne_of_lt (Nat.lt_of_lt_of_le B02 Jv)), Lib.hid (by omega), Lib.hid (Nat.ne_of_gt (Nat.lt_of_lt_of_le M9 (T Mm Jv)))⟩
   ·
    clear hE B4;rintro L ws B0u ⟨Kc, Ij, Kh, Kl, Ja, J8, K2, It, rfl, hE, B4, G6, C8, Rc, Sk, Iu, Mo, Dp, F3, F0, F4, B0a, B81, B7s, B82, B6u, B7a, B6x⟩;have G3 := Ext.refl B0u;have B8n := C8.lt;have B7x := Iu.lt;have B93 := Dp.lt;refine zq (zc (zp (pS (sc 73 #[iv 7] ((row_c 7 _).mono ?_)))));rintro e Ba0 ⟨B53, rfl, B91, B29, hb⟩;refine mv2 hb hE G3 fun hE G3=>?_;have Uf := hb.size;have G9 := B29.va (show Globe.validL (rowL 7) = true by kernel_rfl);have B0o := G9.lt;refine ⟨_, rfl, pS (sc 13 #[iv 64, .agg #[sv B53 0 24 24], .slice none 0 0] (((Build_c (id := 64) _ _ (by omega) (aa_q (G9.aa)) (Ext.refl _) (PcsAt.nil _ none) (Ext.refl _) (hT.ext hE)).mono fun _ _ h => h.n (show Prod.buildOk 64 (rowL 7) [] = false by kernel_rfl)).mono ?_))⟩;rintro e B9f ⟨rfl, hb⟩;refine mv2 hb hE G3 fun hE G3=>?_;have Qm := hb.size;refine ⟨_, rfl, pD (.tuple #[.agg #[iv 0, iv 0, .slice none 0 0, .slice none 0 0], iv 310]) (.agg #[iv 0, iv 0, .slice none 0 0, .slice none 0 0]) ?_⟩;refine pT (iv 310) ?_;refine pS (sw 53 #[iv 0, iv 0, .slice none 0 0, .slice none 0 0] ?_);intro B0w B4u Mn B4d hb hbx;have ⟨Gk, Im, Ip, Ir⟩ := bq4 hbx;refine mv2 hb hE G3 fun hE G3=>?_;have B7o := hb.size;have B8l := Gk.lt;refine pP (zG B0w (iv 0) (iv 0) (.slice none 0 0) (.slice none 0 0) (st53 Gk.1 Gk.2 Im.1 Im.2 Ip.1 Ip.2 Ir.1 Ir.2) Gk Im Ip Ir ?_);intro W8 ho Gk Im Ip Ir hk;replace hE := ho.ext hE (by omega);replace G3 := ho.ext G3 (T (T Uf Qm) (Nat.le_of_eq Mn));have B6z := Nat.le_of_eq ho.size.symm;clear ho hk;refine pT (iv 310) ?_;refine zn (cK [3,4,5,6,7,8,9,10,11,12,13,15] (fun L => ?_));refine cw_seq ?_;refine cw_seq ?_;have C9 := Ext.refl W8;refine zp (pD (iv 0) (.bool false) ?_);refine pD (.bool false) (iv 0) ?_;refine pD (.bool false) (.bool false) ?_;refine pD (.bool false) (iv 0) ?_;refine pD (.bool false) (.bool false) ?_;refine pD (.bool false) (iv 0) ?_;refine pD (.bool false) (.bool false) ?_;refine pD (.bool false) (iv 0) ?_;refine pD (.bool false) (.bool false) ?_;refine pD (.bool false) (iv 310) ?_;refine pD (.bool false) (.bool false) ?_;refine zn (cK [3,4,6,8,10,12,87] (fun L => ?_));refine zf ?_;refine cw_skip (zq (cw_seq ?_));have B2g := B4.trans G3;have B22 := Bz.trans B2g;have B3o := B0.trans B22;have Hm := E7.trans B3o;refine dE Tz42_3 (fun w' => Ext U7 w') (Ext.drew (Hm.trans C9)) (fun ops Q Ba5 hb hL hR hK => ?_);refine mv2 hb hE C9 fun hE C9=>?_;have B8x := hb.size;refine wM 0 (.agg #[iv 1, iv 1, sv Jn Km 24 Kv, .slice Jz Kd Kn]) hR (fun w hS => ld53 (Cv.c hS) (Db.c hS) (D9.c hS) (Da.c hS)) (Hm.trans C9) ?_;refine wC 1 73 #[iv 7] hR ((row_c 7 _).mono ?_);rintro e Ba7 ⟨B3g, rfl, B7p, B3k, hb⟩;refine mv2 hb hE C9 fun hE C9=>?_;have B6t := hb.size;have Fb := B3k.va (show Globe.validL (rowL 7) = true by kernel_rfl);have B8j := Fb.lt;refine ⟨_, rfl, Hm.trans C9, ?_⟩;refine wC 2 73 #[iv 4] hR ((row_c 4 _).mono ?_);rintro e Ban ⟨B2l, rfl, B7f, B1v, hb⟩;refine mv3 hb hE C9 Fb fun hE C9 Fb=>?_;have B8u := hb.size;have G8 := B1v.va (show Globe.validL (rowL 4) = true by kernel_rfl);have B71 := G8.lt;have hS := Hm.trans C9;refine ⟨_, rfl, hS, ?_⟩;refine wV 3 (.agg #[iv 5, iv 200, .bool false, sv B2l 0 24 24]) hR hS ?_;refine wC 4 73 #[iv 3] hR ((row_c 3 _).mono ?_);rintro e B9q ⟨B3a, rfl, B6b, B3d, hb⟩;refine mv4 hb hE C9 Fb G8 fun hE C9 Fb G8=>?_;have B8p := hb.size;have J9 := B3d.va (show Globe.validL (rowL 3) = true by kernel_rfl);have B7m := J9.lt;have hS := Hm.trans C9;refine ⟨_, rfl, hS, ?_⟩;refine wV 5 (.agg #[iv 4, iv 100, .bool true, sv B3a 0 24 24]) hR hS ?_;refine wS 6 hR (sn_newS (us := #[iv 5, iv 200, .bool false, sv B2l 0 24 24, iv 4, iv 100, .bool true, sv B3a 0 24 24]) (t := 49) (k := 2) (c := 2) (by kernel_rfl) ?_);intro Vv B58 B4j B5q hb hbx;have ⟨Jr, Ld, Le, Lr, Lh, Lw, Lp, Lu⟩ := bq8 hbx;refine mv5 hb hE C9 Fb G8 J9 fun hE C9 Fb G8 J9=>?_;have B76 := hb.size;have B70 := Jr.lt;refine ⟨(Hm.trans C9), ?_⟩;refine wV 7 (.agg #[iv 1, iv 1, sv B3g 0 24 24, sv Vv 0 2 2]) hR (Hm.trans C9) ?_;have W6 : PcsAt B58 (some ⟨Vv, 0, none⟩) 2 [p5', p4] := PcsB.at (PcsB.cons (p := p5') (o := 0) (o' := 4) rfl (Jr.1) (Ld.1) (Le.1) (Lr.1) (AA.ext (aa_q (G8.aa)) (Ext.refl _)) (PcsB.cons (p := p4) (o := 4) (o' := 8) rfl (Lh.1) (Lw.1) (Lp.1) (Lu.1) (AA.ext (aa_q (J9.aa)) (Ext.refl _)) PcsB.nil)) rfl (by omega);refine wC 8 32 #[.agg #[iv 1, iv 1, sv Jn Km 24 Kv, .slice Jz Kd Kn], .agg #[iv 1, iv 1, sv B3g 0 24 24, sv Vv 0 2 2]] hR ((rpSame_r (r := true) (id := 1) (ver := 1) (id2 := 1) (ver2 := 1) _ _ _ _ _ (aa_q (Iv.aa)) (Hm.trans C9) (Jg) (Hm.trans C9) (aa_q (Fb.aa)) (Ext.refl _) W6 (Ext.refl _) (by kernel_rfl)).mono ?_);rintro e Vh ⟨rfl, hb⟩;refine mv2 hb hE C9 fun hE C9=>?_;have B7y := hb.size;have hS := Hm.trans C9;refine ⟨_, rfl, hS, ?_⟩;refine wV 9 (.bool true) hR hS ?_;refine we hL hR hK ?_;refine zq (cK [3,4,6,8,10,12,16] (fun L => ?_));refine cw_seq ?_;have C5 := Ext.refl Vh;have Uj := G3.trans C9;have B0f := B4.trans Uj;have Z7 := Bz.trans B0f;have Ks := B0.trans Z7;have B0n := E7.trans Ks;have M5 := B2.trans B0n;refine dE Tz42_4 (fun w' => Ext Vh w') (Ext.drew (Ext.refl _)) (fun ops Q Bbn hb hL hR hK => ?_);refine mv2 hb hE C5 fun hE C5=>?_;have B9a := hb.size;refine wM 0 (.agg #[iv 1, iv 2, sv He Hg 24 Hk, .slice Fv Fq Hh]) hR (fun w hS => ld53 (Cs.c (Ks.trans hS)) (D0.c (Ks.trans hS)) (D4.c (Ks.trans hS)) (D3.c (Ks.trans hS))) C5 ?_;refine wM 6 (.agg #[iv 6, iv 300, .bool true, sv We 0 24 24]) hR (fun w hS => ld49 (G7.c (M5.trans hS)) (Hz.c (M5.trans hS)) (I5.c (M5.trans hS)) (Ig.c (M5.trans hS))) C5 ?_
    refine wC 1 73 #[iv 7] hR ((row_c 7 _).mono ?_);rintro e Ba6 ⟨B45, rfl, B8t, Z0, hb⟩;refine mv2 hb hE C5 fun hE C5=>?_;have B8i := hb.size;have Fe := Z0.va (show Globe.validL (rowL 7) = true by kernel_rfl);have B8h := Fe.lt;refine ⟨_, rfl, C5, ?_⟩;refine wC 2 73 #[iv 4] hR ((row_c 4 _).mono ?_);rintro e Bb5 ⟨B0t, rfl, B6d, B3w, hb⟩;refine mv3 hb hE C5 Fe fun hE C5 Fe=>?_;have B77 := hb.size;have Gd := B3w.va (show Globe.validL (rowL 4) = true by kernel_rfl);have B6k := Gd.lt;refine ⟨_, rfl, C5, ?_⟩;refine wV 3 (.agg #[iv 5, iv 200, .bool false, sv B0t 0 24 24]) hR C5 ?_;refine wC 4 73 #[iv 1] hR ((row_c 1 _).mono ?_);rintro e Bbj ⟨B1q, rfl, B73, B1x, hb⟩;refine mv4 hb hE C5 Fe Gd fun hE C5 Fe Gd=>?_;have B7d := hb.size;have J5 := B1x.va (show Globe.validL (rowL 1) = true by kernel_rfl);have B8e := J5.lt;refine ⟨_, rfl, C5, ?_⟩;refine wV 5 (.agg #[iv 4, iv 100, .bool true, sv B1q 0 24 24]) hR C5 ?_;refine wS 7 hR (sn_newS (us := #[iv 5, iv 200, .bool false, sv B0t 0 24 24, iv 4, iv 100, .bool true, sv B1q 0 24 24, iv 6, iv 300, .bool true, sv We 0 24 24]) (t := 49) (k := 3) (c := 3) (by kernel_rfl) ?_);intro Vs B4c B5k B63 hb hbx;have ⟨Jw, Ln, Lg, Lq, Ll, Lz, M0, Lo, Ly, M1, K8, Ka⟩ := bq12 hbx;refine mv5 hb hE C5 Fe Gd J5 fun hE C5 Fe Gd J5=>?_;have B6p := hb.size;have B7q := Jw.lt;refine ⟨C5, ?_⟩;refine wV 8 (.agg #[iv 1, iv 2, sv B45 0 24 24, sv Vs 0 3 3]) hR C5 ?_;have V4 : PcsAt B4c (some ⟨Vs, 0, none⟩) 3 [p5', p4', p6] := PcsB.at (PcsB.cons (p := p5') (o := 0) (o' := 4) rfl (Jw.1) (Ln.1) (Lg.1) (Lq.1) (AA.ext (aa_q (Gd.aa)) (Ext.refl _)) (PcsB.cons (p := p4') (o := 4) (o' := 8) rfl (Ll.1) (Lz.1) (M0.1) (Lo.1) (AA.ext (aa_q (J5.aa)) (Ext.refl _)) (PcsB.cons (p := p6) (o := 8) (o' := 12) rfl (Ly.1) (M1.1) (K8.1) (Ka.1) (AA.ext (aa_q (K7.aa)) (M5.trans C5)) PcsB.nil))) rfl (by omega);refine wC 9 32 #[.agg #[iv 1, iv 2, sv He Hg 24 Hk, .slice Fv Fq Hh], .agg #[iv 1, iv 2, sv B45 0 24 24, sv Vs 0 3 3]] hR ((rpSame_r (r := true) (id := 1) (ver := 2) (id2 := 1) (ver2 := 2) _ _ _ _ _ (aa_q (Gf.aa)) (Ks.trans C5) (G6) (Uj.trans C5) (aa_q (Fe.aa)) (Ext.refl _) V4 (Ext.refl _) (by kernel_rfl)).mono ?_);rintro e Z8 ⟨rfl, hb⟩;refine mv2 hb hE C5 fun hE C5=>?_;have B90 := hb.size;refine ⟨_, rfl, C5, ?_⟩;refine wV 10 (.bool true) hR C5 ?_;refine we hL hR hK ?_;refine zq (cK [4,6,8,10,12,16,17] (fun L => ?_));refine cw_seq ?_;have Dt := Ext.refl Z8;refine cw_plain ?_;have B21 := C9.trans C5;have Uh := G3.trans B21;have B1y := B4.trans Uh;have K9 := Bz.trans B1y;have Me := B0.trans K9;refine pU (.agg #[iv 1, iv 2, sv He Hg 24 Hk, .slice Fv Fq Hh]) (xl (ld53 (Cs.c (Me.trans Dt)) (D0.c (Me.trans Dt)) (D4.c (Me.trans Dt)) (D3.c (Me.trans Dt)))) ?_;refine pT (.agg #[iv 1, iv 0]) ?_;refine pS (sc 19 #[.agg #[iv 1, iv 2, sv He Hg 24 Hk, .slice Fv Fq Hh], .agg #[iv 1, iv 0]] ((From_y (id := 1) (ver := 2) (u := 1) (v := 0) (p := p6) _ _ (by omega) (aa_q (Gf.aa)) (Me.trans Dt) (G6) (Uh.trans Dt) (hT.ext hE) (by kernel_rfl) (by kernel_rfl)).mono ?_));rintro e B9v ⟨rfl, hb⟩;refine mv2 hb hE Dt fun hE Dt=>?_;have B8r := hb.size;refine ⟨_, rfl, pD (.tuple #[iv 6, .bool true]) (iv 6) ?_⟩;refine pD (.bool true) (iv 6) ?_;refine pT (.bool true) ?_;refine zn (cK [4,6,8,10,12,16,17,18,19] (fun L => ?_));refine zc (zp (pU (.agg #[iv 1, iv 1, sv Dv Ff 24 Fi, .slice E9 Ec Fd]) (xl (ld53 (Cb.c (K9.trans Dt)) (Cu.c (K9.trans Dt)) (Ct.c (K9.trans Dt)) (Cr.c (K9.trans Dt)))) ?_));refine pT (.agg #[iv 0, iv 0]) ?_;refine pS (sc 19 #[.agg #[iv 1, iv 1, sv Dv Ff 24 Fi, .slice E9 Ec Fd], .agg #[iv 0, iv 0]] ((From_n (id := 1) (ver := 1) (u := 0) (v := 0) _ _ (by omega) (aa_q (Ed.aa)) (K9.trans Dt) (Fy) (K9.trans Dt) (hT.ext hE) (by kernel_rfl) (by kernel_rfl)).mono ?_));rintro e Y9 ⟨rfl, hb⟩;refine mv2 hb hE Dt fun hE Dt=>?_;have B92 := hb.size;refine ⟨_, rfl, pD (.tuple #[iv 0, .bool false]) (iv 0) ?_⟩;refine pD (.bool false) (iv 0) ?_;refine pT (.bool false) ?_;refine zn (cK [4,6,8,10,12,16,17,18,19,21] (fun L => ?_));refine cw_seq ?_;have B3 := Ext.refl Y9;have Za := C5.trans Dt;have B0m := C9.trans Za;have Gh := G3.trans B0m;have Qu := B4.trans Gh;have Fl := Bz.trans Qu;have Cq := B0.trans Fl;have Ca := E7.trans Cq;refine dE Tz42_5 (fun w' => Ext Y9 w') (Ext.drew (Ext.refl _)) (fun ops Q Bbo hb hL hR hK => ?_);refine mv2 hb hE B3 fun hE B3=>?_;have B9c := hb.size;refine wW 0 (.bool true) 1 (.bool true) hR B3 ?_;refine wW 2 (.bool true) 3 (.bool true) hR B3 ?_;refine wV 4 (.bool true) hR B3 ?_;refine wM 5 (.agg #[sv Pr Pn 24 Pk]) hR (fun w hS => ld33 (Fo.c (Qu.trans hS))) B3 ?_;refine wC 6 73 #[iv 1] hR ((row_c 1 _).mono ?_);rintro e Bb7 ⟨B4v, rfl, B67, B10, hb⟩;refine mv2 hb hE B3 fun hE B3=>?_;have B6y := hb.size;have C6 := B10.va (show Globe.validL (rowL 1) = true by kernel_rfl);have B7u := C6.lt;refine ⟨_, rfl, B3, ?_⟩;refine wC 7 16 #[.agg #[sv Pr Pn 24 Pk], .agg #[sv B4v 0 24 24]] hR ((rSame_q (r := true) _ _ _ (Kt.aa) (Qu.trans B3) (C6.aa) (Ext.refl _) (by kernel_rfl)).mono ?_);rintro e Bb6 ⟨rfl, hb⟩;refine mv2 hb hE B3 fun hE B3=>?_;have B6v := hb.size;refine ⟨_, rfl, B3, ?_⟩;refine wW 8 (.bool true) 9 (.bool true) hR B3 ?_;refine wM 10 (.agg #[iv 1, iv 1, sv Ij Kh 24 Kl, .slice Ja J8 K2]) hR (fun w hS => ld53 (Dp.c (Gh.trans hS)) (F3.c (Gh.trans hS)) (F0.c (Gh.trans hS)) (F4.c (Gh.trans hS))) B3 ?_;refine wM 11 (.agg #[iv 1, iv 1, sv Dv Ff 24 Fi, .slice E9 Ec Fd]) hR (fun w hS => ld53 (Cb.c (Fl.trans hS)) (Cu.c (Fl.trans hS)) (Ct.c (Fl.trans hS)) (Cr.c (Fl.trans hS))) B3 ?_;refine wC 12 31 #[.agg #[iv 1, iv 1, sv Ij Kh 24 Kl, .slice Ja J8 K2], .agg #[iv 1, iv 1, sv Dv Ff 24 Fi, .slice E9 Ec Fd]] hR ((pSame_r (r := true) (id := 1) (ver := 1) (id2 := 1) (ver2 := 1) _ _ _ _ _ (aa_q (Iu.aa)) (Gh.trans B3) (Mo) (Gh.trans B3) (aa_q (Ed.aa)) (Fl.trans B3) (Fy) (Fl.trans B3) (by kernel_rfl)).mono ?_)
    rintro e B9n ⟨rfl, hb⟩;refine mv2 hb hE B3 fun hE B3=>?_;have B8a := hb.size;refine ⟨_, rfl, B3, ?_⟩;refine wW 13 (.bool true) 14 (.bool true) hR B3 ?_;refine wM 15 (.agg #[iv 1, iv 1, sv Jn Km 24 Kv, .slice Jz Kd Kn]) hR (fun w hS => ld53 (Cv.c (Ca.trans hS)) (Db.c (Ca.trans hS)) (D9.c (Ca.trans hS)) (Da.c (Ca.trans hS))) B3 ?_;refine wM 16 (.agg #[iv 1, iv 2, sv He Hg 24 Hk, .slice Fv Fq Hh]) hR (fun w hS => ld53 (Cs.c (Cq.trans hS)) (D0.c (Cq.trans hS)) (D4.c (Cq.trans hS)) (D3.c (Cq.trans hS))) B3 ?_;refine wC 17 31 #[.agg #[iv 1, iv 1, sv Jn Km 24 Kv, .slice Jz Kd Kn], .agg #[iv 1, iv 2, sv He Hg 24 Hk, .slice Fv Fq Hh]] hR ((pSame_r (r := false) (id := 1) (ver := 1) (id2 := 1) (ver2 := 2) _ _ _ _ _ (aa_q (Iv.aa)) (Ca.trans B3) (Jg) (Ca.trans B3) (aa_q (Gf.aa)) (Cq.trans B3) (G6) (Gh.trans B3) (by kernel_rfl)).mono ?_);rintro e Ba2 ⟨rfl, hb⟩;refine mv2 hb hE B3 fun hE B3=>?_;have B8z := hb.size;refine ⟨_, rfl, B3, ?_⟩;refine wW 18 (.bool true) 19 (.bool true) hR B3 ?_;refine wW 20 (.bool true) 21 (.bool true) hR B3 ?_;refine wW 22 (.bool true) 23 (.bool true) hR B3 ?_;refine wW 24 (iv 6) 25 (.bool true) hR B3 ?_;refine wW 26 (.bool true) 27 (.bool true) hR B3 ?_;refine wW 28 (.bool false) 29 (.bool true) hR B3 ?_;refine wW 30 (.bool true) 31 (.bool true) hR B3 ?_;refine wM 32 (.agg #[iv 1, iv 1, sv Jn Km 24 Kv, .slice Jz Kd Kn]) hR (fun w hS => ld53 (Cv.c (Ca.trans hS)) (Db.c (Ca.trans hS)) (D9.c (Ca.trans hS)) (Da.c (Ca.trans hS))) B3 ?_;refine wC 33 17 #[.agg #[iv 1, iv 1, sv Jn Km 24 Kv, .slice Jz Kd Kn]] hR ((Complete_r (r := true) (id := 1) (ver := 1) _ _ (by omega) (aa_q (Iv.aa)) (Ca.trans B3) (Jg) (Ca.trans B3) (hT.ext hE) (by kernel_rfl)).mono ?_);rintro e Bag ⟨rfl, hb⟩;refine mv2 hb hE B3 fun hE B3=>?_;have B7b := hb.size;refine ⟨_, rfl, B3, ?_⟩;refine wW 34 (.bool true) 35 (.bool true) hR B3 ?_;refine wM 36 (.agg #[iv 1, iv 1, sv Dv Ff 24 Fi, .slice E9 Ec Fd]) hR (fun w hS => ld53 (Cb.c (Fl.trans hS)) (Cu.c (Fl.trans hS)) (Ct.c (Fl.trans hS)) (Cr.c (Fl.trans hS))) B3 ?_;refine wC 37 17 #[.agg #[iv 1, iv 1, sv Dv Ff 24 Fi, .slice E9 Ec Fd]] hR ((Complete_r (r := false) (id := 1) (ver := 1) _ _ (by omega) (aa_q (Ed.aa)) (Fl.trans B3) (Fy) (Fl.trans B3) (hT.ext hE) (by kernel_rfl)).mono ?_);rintro e Bba ⟨rfl, hb⟩;refine mv2 hb hE B3 fun hE B3=>?_;have B8b := hb.size;refine ⟨_, rfl, B3, ?_⟩;refine wW 38 (.bool true) 39 (.bool true) hR B3 ?_;refine wV 40 (.bool true) hR B3 ?_;refine wM 41 (.agg #[iv 1, iv 2, sv He Hg 24 Hk, .slice Fv Fq Hh]) hR (fun w hS => ld53 (Cs.c (Cq.trans hS)) (D0.c (Cq.trans hS)) (D4.c (Cq.trans hS)) (D3.c (Cq.trans hS))) B3 ?_;refine wM 42 (.agg #[iv 1, iv 1, sv Jn Km 24 Kv, .slice Jz Kd Kn]) hR (fun w hS => ld53 (Cv.c (Ca.trans hS)) (Db.c (Ca.trans hS)) (D9.c (Ca.trans hS)) (Da.c (Ca.trans hS))) B3 ?_;refine wC 43 33 #[.agg #[iv 1, iv 2, sv He Hg 24 Hk, .slice Fv Fq Hh], .agg #[iv 1, iv 1, sv Jn Km 24 Kv, .slice Jz Kd Kn]] hR ((Over_r (r := true) (id := 1) (ver := 2) (id2 := 1) (ver2 := 1) _ _ _ (by omega) (by omega) (aa_q (Gf.aa)) (Cq.trans B3) (G6) (Gh.trans B3) (aa_q (Iv.aa)) (Ca.trans B3) (Jg) (Ca.trans B3) (hT.ext hE) (by kernel_rfl)).mono ?_);rintro e Bal ⟨rfl, hb⟩;refine mv2 hb hE B3 fun hE B3=>?_;have B65 := hb.size;refine ⟨_, rfl, B3, ?_⟩;refine wW 44 (.bool true) 45 (.bool true) hR B3 ?_;refine wM 46 (.agg #[iv 1, iv 1, sv Jn Km 24 Kv, .slice Jz Kd Kn]) hR (fun w hS => ld53 (Cv.c (Ca.trans hS)) (Db.c (Ca.trans hS)) (D9.c (Ca.trans hS)) (Da.c (Ca.trans hS))) B3 ?_;refine wM 47 (.agg #[iv 1, iv 2, sv He Hg 24 Hk, .slice Fv Fq Hh]) hR (fun w hS => ld53 (Cs.c (Cq.trans hS)) (D0.c (Cq.trans hS)) (D4.c (Cq.trans hS)) (D3.c (Cq.trans hS))) B3 ?_;refine wC 48 33 #[.agg #[iv 1, iv 1, sv Jn Km 24 Kv, .slice Jz Kd Kn], .agg #[iv 1, iv 2, sv He Hg 24 Hk, .slice Fv Fq Hh]] hR ((Over_r (r := false) (id := 1) (ver := 1) (id2 := 1) (ver2 := 2) _ _ _ (by omega) (by omega) (aa_q (Iv.aa)) (Ca.trans B3) (Jg) (Ca.trans B3) (aa_q (Gf.aa)) (Cq.trans B3) (G6) (Gh.trans B3) (hT.ext hE) (by kernel_rfl)).mono ?_);rintro e B9u ⟨rfl, hb⟩;refine mv2 hb hE B3 fun hE B3=>?_;have B6o := hb.size;refine ⟨_, rfl, B3, ?_⟩;refine wW 49 (.bool true) 50 (.bool true) hR B3 ?_;refine wV 51 (.bool true) hR B3 ?_;refine wM 52 (.agg #[iv 1, iv 2, sv He Hg 24 Hk, .slice Fv Fq Hh]) hR (fun w hS => ld53 (Cs.c (Cq.trans hS)) (D0.c (Cq.trans hS)) (D4.c (Cq.trans hS)) (D3.c (Cq.trans hS))) B3 ?_;refine wC 53 28 #[.agg #[iv 1, iv 2, sv He Hg 24 Hk, .slice Fv Fq Hh]] hR ((pValid_r (r := true) (id := 1) (ver := 2) _ _ (by omega) (aa_q (Gf.aa)) (Cq.trans B3) (G6) (Gh.trans B3) (hT.ext hE) (by kernel_rfl)).mono ?_);rintro e B3i ⟨rfl, hb⟩;refine mv2 hb hE B3 fun hE B3=>?_;have B94 := hb.size;refine ⟨_, rfl, B3, ?_⟩;refine wW 54 (.bool true) 55 (.bool true) hR B3 ?_;refine wV 56 (.agg #[iv 0, iv 0, .slice none 0 0, .slice none 0 0]) hR B3 ?_;refine wC 57 28 #[.agg #[iv 0, iv 0, .slice none 0 0, .slice none 0 0]] hR ((pValid_r (r := false) (id := 0) (ver := 0) _ _ (by omega) (aa_nil B3i) (Ext.refl _) (PcsAt.nil B3i none) (Ext.refl _) (hT.ext hE) (by kernel_rfl)).mono ?_);rintro e B9l ⟨rfl, hb⟩;refine mv2 hb hE B3 fun hE B3=>?_;have B7i := hb.size;refine ⟨_, rfl, B3, ?_⟩;refine wW 58 (.bool true) 59 (.bool true) hR B3 ?_;refine wV 60 (.bool true) hR B3 ?_;refine we hL hR hK ?_;refine zq (cK [0] (fun L => ?_));refine cw_ret (qw_ret [.bool true] rfl ⟨(by kernel_rfl), trivial⟩ ?_);exact ⟨rfl, hE⟩
end Go.Proofs.YtajdohcgjgknmaaGreatDoor

namespace Go.Proofs.YtajdohcgjgknmaaGreatDoor
namespace Prod
open Globe
theorem own_valid {r : List Int} {x : Pc} (h : validL r = true) (hx : okP x = true) : okP (own r x) = true := by
 obtain ⟨a, b, c⟩ := okP_t.1 hx
 exact okP_t.2 ⟨a, b, meet_valid h⟩
theorem mem_divF : ∀ {s : List Pc} {r : List Int} {y : Pc}, y ∈ divF r s → ∃ p ∈ s, y.im = p.im ∧ y.cl = p.cl ∧ y.t = p.t ∧ ∀ u v, v < 24 → hasL y.rw u v = true → hasL p.rw u v = true ∧ hasL r u v = true
  | [], _, _, h => by cases h
  | x :: s, r, y, h => by
    rw [divF] at h
    rcases List.mem_append.1 h with h | h
    · split at h
      · cases h
      · rw [List.mem_singleton.1 h]
        refine ⟨x, by simp, rfl, rfl, rfl, fun u v hv hh => ?_⟩
        have : hasL (meetL r x.rw) u v = true := hh
        rw [has_meet hv, Bool.and_eq_true] at this
        exact ⟨this.2, this.1⟩
    · obtain ⟨p, hp, h1, h2, h3, h4⟩ := mem_divF h
      refine ⟨p, by simp [hp], h1, h2, h3, fun u v hv hh => ?_⟩
      obtain ⟨q1, q2⟩ := h4 u v hv hh
      rw [has_less hv, Bool.and_eq_true] at q2
      exact ⟨q1, q2.1⟩
theorem any_im {pre : List Pc} {im : Int} (h : ∀ q ∈ pre, q.im ≠ im) : (pre.any fun p => decide (p.im = im)) = false := by
 rw [List.any_eq_false]
 exact fun q hq => by simpa using h q hq
theorem vGo_div : ∀ (n : Nat) {s : List Pc}, s.length = n → Sorted s → Dist s → (∀ p ∈ s, okP p = true) → ∀ {r : List Int}, validL r = true → ∀ {free : List Int} {pre : List Pc}, validL free = true →
    (∀ y ∈ divF r s, ∀ u v, v < 24 → hasL y.rw u v = true → hasL free u v = true) → (∀ q ∈ pre, ∀ p ∈ s, q.im ≠ p.im) → (∀ q, pre.getLast? = some q → ∀ p ∈ s, better p q = true) → vGo free pre (divF r s).reverse = true
  | 0, s, hl, _, _, _, r, _, free, pre, _, _, _, _ => by
    obtain rfl := List.eq_nil_of_length_eq_zero hl
    rfl
  | n + 1, s, hl, hs, hd, ho, r, hr, free, pre, hf, hin, him, hbt => by
    rcases List.eq_nil_or_concat s with rfl | ⟨s', x, rfl⟩
    · simp at hl
    rw [List.concat_eq_append] at *
    have hl' : s'.length = n := by simpa using hl
    have hs' : Sorted s' := (List.pairwise_append.1 hs).1
    have hd' : Dist s' := (List.pairwise_append.1 hd).1
    have hsx : ∀ p ∈ s', better p x = true := fun p hp => (List.pairwise_append.1 hs).2.2 p hp x (by simp)
    have hdx : ∀ p ∈ s', p.im ≠ x.im := fun p hp => (List.pairwise_append.1 hd).2.2 p hp x (by simp)
    have ho' : ∀ p ∈ s', okP p = true := fun p hp => ho p (by simp [hp])
    have hR := rest_valid s' hr
    rw [divF_snoc] at hin ⊢
    rw [List.reverse_append]
    cases hz : noC (meetL (rest r s') x.rw)
    · rw [hz] at hin
      rw [if_neg (by simp)] at hin ⊢
      show vGo free pre (own (rest r s') x :: (divF r s').reverse) = true
      have hoy : okP (own (rest r s') x) = true := own_valid hR (ho x (by simp))
      have hyv : validL (own (rest r s') x).rw = true := meet_valid hR
      rw [vGo, Bool.and_eq_true]
      refine ⟨?_, vGo_div n hl' hs' hd' ho' hr (less_valid hf) (fun y hy u v hv hh => ?_) (fun q hq p hp => ?_) (fun q hq p hp => ?_)⟩
      · unfold stepOk
        rw [hoy, show noC (own (rest r s') x).rw = false from hz, (contains_iff hf hyv).2 (fun u v _ hv hh => hin _ (by simp) u v hv hh), any_im (im := (own (rest r s') x).im) (fun q hq => him q hq x (by simp))]
        cases hg : pre.getLast? with
        | none => rfl
        | some q => have h9 : better (own (rest r s') x) q = true := hbt q hg x (by simp); dsimp only; rw [h9]; rfl
      · rw [has_less hv, hin y (by simp [hy]) u v hv hh]
        obtain ⟨p, hp, _, _, _, h4⟩ := mem_divF hy
        have h5 := (h4 u v hv hh).1
        cases h6 : hasL (own (rest r s') x).rw u v
        · rfl
        · have h7 : hasL (meetL (rest r s') x.rw) u v = true := h6
          rw [has_meet hv, has_rest hv, Bool.and_eq_true, Bool.and_eq_true] at h7
          have h8 := List.all_eq_true.1 h7.1.2 p hp
          rw [h5] at h8; cases h8
      · rcases List.mem_append.1 hq with hq | hq
        · exact him q hq p (by simp [hp])
        · rw [List.mem_singleton.1 hq]; exact (hdx p hp).symm
      · rw [List.getLast?_append, List.getLast?_singleton] at hq
        cases hq
        exact hsx p hp
    · rw [hz] at hin
      rw [if_pos rfl] at hin ⊢
      rw [List.append_nil] at hin
      show vGo free pre (divF r s').reverse = true
      exact vGo_div n hl' hs' hd' ho' hr hf hin (fun q hq p hp => him q hq p (by simp [hp])) (fun q hq p hp => hbt q hq p (by simp [hp]))
theorem sortD_ok {l : List Pc} (h : ∀ p ∈ l, okP p = true) : ∀ p ∈ sortD l, okP p = true := fun p hp => h p ((sortD_perm l).mem_iff.1 hp)
theorem divide_len (ar : List Int) (l : List Pc) : (divide ar l).length ≤ l.length := by
 unfold divide
 rw [List.length_reverse]
 exact T (divF_len _ _) (Nat.le_of_eq (sortD_perm l).length_eq)
theorem divide_valid {id ver : Int} {ar : List Int} {l : List Pc} (hid : 0 ≤ id ∧ id ≤ 63) (hver : 1 ≤ ver ∧ ver ≤ 100) (ha : validL ar = true) (ho : ∀ p ∈ l, okP p = true) (hd : Dist l) (hn : l.length ≤ 24) : validP id ver ar (divide ar l) = true := by
 unfold validP headOk
 rw [inB_t.2 hid, inB_t.2 hver, ha, decide_eq_true (T (divide_len ar l) hn)]
 have := vGo_div _ rfl (sortD_sorted hd) ((Dist.perm (sortD_perm l)).2 hd) (sortD_ok ho) ha (free := ar) (pre := []) ha (fun y hy u v hv hh => by
  obtain ⟨p, _, _, _, _, h4⟩ := mem_divF hy
  exact (h4 u v hv hh).2) (fun q hq => by cases hq) (fun q hq => by simp at hq)
 exact this
theorem build_ok {id : Int} {ar : List Int} {l : List Pc} (hid : 0 ≤ id ∧ id ≤ 63) (ha : validL ar = true) (hg : goodL l = true) (hn : l.length ≤ 24) : buildOk id ar l = true := by
 unfold buildOk
 rw [decide_eq_true hn, ha, hg, divide_valid hid (by omega) ha (goodL_ok hg) (goodL_dist hg) hn]; rfl
theorem sameP_refl (id ver : Int) (ar : List Int) (ps : List Pc) : sameP id ver ar ps id ver ar ps = true := by unfold sameP; rw [sameL_iff.2 rfl]; simp
end Prod
end Go.Proofs.YtajdohcgjgknmaaGreatDoor

namespace Go.Proofs.YtajdohcgjgknmaaGreatDoor
namespace Prod
open Globe
theorem okP_v {p : Pc} (h : okP p = true) : validL p.rw = true := (okP_t.1 h).2.2
theorem dist_init {l : List Pc} {x : Pc} (h : Dist (l ++ [x])) : Dist l := (List.pairwise_append.1 h).1
theorem hasIm_app {a b : List Pc} {im : Int} : hasIm (a ++ b) im = (hasIm a im || hasIm b im) := by unfold hasIm; rw [List.any_append]
theorem find_has {ps : List Pc} {u v : Nat} (hu : u < 48) (hv : v < 24) (ho : ∀ p ∈ ps, okP p = true) : (∀ x, ps.find? (fun p => hasB p.rw ((u : Nat) : Int) ((v : Nat) : Int)) = some x → x ∈ ps ∧ hasL x.rw u v = true) ∧ (ps.find? (fun p => hasB p.rw ((u : Nat) : Int) ((v : Nat) : Int)) = none ↔ ¬ ∃ x ∈ ps, hasL x.rw u v = true) := by
  constructor
  · intro x hx
    have hm := List.mem_of_find?_eq_some hx
    have := List.find?_some hx
    rw [hasB_nat (okP_v (ho x hm)) hu hv] at this
    exact ⟨hm, this⟩
  · rw [List.find?_eq_none]
    constructor
    · rintro h ⟨x, hx, hh⟩
      exact h x hx (by rw [hasB_nat (okP_v (ho x hx)) hu hv]; exact hh)
    · intro h x hx hh
      rw [hasB_nat (okP_v (ho x hx)) hu hv] at hh
      exact h ⟨x, hx, hh⟩
end Prod
end Go.Proofs.YtajdohcgjgknmaaGreatDoor

namespace Go.Proofs.YtajdohcgjgknmaaGreatDoor
namespace Prod
open Globe
theorem snoc_ind {α : Type} {P : List α → Prop} (h0 : P []) (hs : ∀ l x, P l → P (l ++ [x])) (l : List α) : P l := by
 have : ∀ n (l : List α), l.length = n → P l := by
  intro n
  induction n with
  | zero => intro l hl; rw [List.eq_nil_of_length_eq_zero hl]; exact h0
  | succ n ih =>
   intro l hl
   rcases List.eq_nil_or_concat l with rfl | ⟨m, x, rfl⟩
   · simp at hl
   · rw [List.concat_eq_append] at *; exact hs m x (ih m (by simpa using hl))
 exact this _ l rfl
def insA (x : Pc) : List Pc → List Pc
 | [] => [x]
 | y :: l => if better x y then y :: insA x l else x :: y :: l
def sortA (l : List Pc) : List Pc := l.foldl (fun out x => insA x out) []
theorem sortA_snoc (l : List Pc) (x : Pc) : sortA (l ++ [x]) = insA x (sortA l) := by unfold sortA; rw [List.foldl_append]; rfl
theorem insA_at {x : Pc} : ∀ {l : List Pc} {k : Nat}, (∀ i y, i < k → l[i]? = some y → better x y = true) → k ≤ l.length → (∀ y, l[k]? = some y → better x y = false) → insA x l = l.take k ++ x :: l.drop k
 | [], k, _, hk, _ => by
  have : k = 0 := by simpa using hk
  subst this; rfl
 | y :: l, 0, _, _, h => by rw [insA, h y rfl]; rfl
 | y :: l, k + 1, h, hk, h2 => by
  rw [insA, h 0 y (by omega) rfl, if_pos rfl, insA_at (k := k) (fun i z hi hz => h (i + 1) z (by omega) (by simpa using hz)) (by simpa using hk) (fun z hz => h2 z (by simpa using hz))]
  rfl
theorem insA_perm (x : Pc) : ∀ l, (insA x l).Perm (x :: l)
 | [] => .refl _
 | y :: l => by
  unfold insA; split
  · exact ((insA_perm x l).cons y).trans (.swap x y l)
  · exact .refl _
def Asc (l : List Pc) : Prop := l.Pairwise fun a b => better b a = true
theorem insA_asc {x : Pc} : ∀ {l : List Pc}, Asc l → (∀ y ∈ l, x.im ≠ y.im) → Asc (insA x l)
  | [], _, _ => List.pairwise_singleton _ _
  | y :: l, h, hd => by
    unfold insA
    obtain ⟨h1, h2⟩ := List.pairwise_cons.1 h
    split
    · rename_i hb
      refine List.pairwise_cons.2 ⟨fun z hz => ?_, insA_asc h2 fun z hz => hd z (by simp [hz])⟩
      rcases List.mem_cons.1 ((insA_perm x l).mem_iff.1 hz) with rfl | hz
      · exact hb
      · exact h1 z hz
    · rename_i hb
      have hyx : better y x = true := (better_or (hd y (by simp))).resolve_left hb
      exact List.pairwise_cons.2 ⟨fun z hz => by
        rcases List.mem_cons.1 hz with rfl | hz
        · exact hyx
        · exact better_trans (h1 z hz) hyx, h⟩
theorem sortA_perm (l : List Pc) : (sortA l).Perm l :=
 snoc_ind (P := fun l => (sortA l).Perm l) (.refl _) (fun l x ih => by rw [sortA_snoc]; exact (insA_perm x _).trans ((ih.cons x).trans (List.perm_append_comm (l₁ := [x])))) l
theorem sortA_asc {l : List Pc} : Dist l → Asc (sortA l) :=
 snoc_ind (P := fun l => Dist l → Asc (sortA l)) (fun _ => List.Pairwise.nil) (fun l x ih hd => by
  rw [sortA_snoc]
  exact insA_asc (ih (dist_init hd)) fun y hy => ((List.pairwise_append.1 hd).2.2 y ((sortA_perm l).mem_iff.1 hy) x (by simp)).symm) l
theorem sortA_eq {l : List Pc} (hd : Dist l) : sortA l = (sortD l).reverse := by
 have h : (sortA l).reverse = sortD l := sortD_eq hd (List.pairwise_reverse.2 (sortA_asc hd)) ((List.reverse_perm _).trans (sortA_perm l))
 rw [← h, List.reverse_reverse]
theorem sortA_rev {l : List Pc} (hd : Dist l) : (sortA l).reverse = sortD l := by rw [sortA_eq hd, List.reverse_reverse]
def divA (ar : List Int) (s : List Pc) : List Pc := (divF ar s.reverse).reverse
theorem divA_sort {ar : List Int} {l : List Pc} (hd : Dist l) : divA ar (sortA l) = divide ar l := by unfold divA divide; rw [sortA_rev hd]
theorem rev_take {s : List Pc} {i : Nat} {x : Pc} (hx : s[i]? = some x) : s.reverse.take (s.length - i) = s.reverse.take (s.length - (i + 1)) ++ [x] := by
 obtain ⟨hi, _⟩ := List.getElem?_eq_some_iff.1 hx
 have e : s.length - i = (s.length - (i + 1)) + 1 := by omega
 rw [e, List.take_add_one, List.getElem?_reverse (by omega), show s.length - 1 - (s.length - (i + 1)) = i by omega, hx]
 rfl
theorem divA_step {ar : List Int} {s : List Pc} {i : Nat} {x : Pc} (hx : s[i]? = some x) :
  (divF ar (s.reverse.take (s.length - i))).reverse = (if noC (meetL (rest ar (s.reverse.take (s.length - (i + 1)))) x.rw) then [] else [own (rest ar (s.reverse.take (s.length - (i + 1)))) x]) ++ (divF ar (s.reverse.take (s.length - (i + 1)))).reverse := by
 rw [rev_take hx, divF_snoc, List.reverse_append]
 congr 1
 split <;> rfl
theorem restA_step {ar : List Int} {s : List Pc} {i : Nat} {x : Pc} (hx : s[i]? = some x) : rest ar (s.reverse.take (s.length - i)) = lessL (rest ar (s.reverse.take (s.length - (i + 1)))) x.rw := by
 rw [rev_take hx, rest_snoc]
theorem less_zero {l : List Int} (h : validL l = true) : lessL l zeroL = l :=
 ext_has (less_valid h) h fun u v hu hv => by rw [has_less hv, has_zero]; simp
def apart (pre : List Pc) (x : Pc) : Bool := pre.all fun q => noC (meetL x.rw q.rw) && !decide (q.im = x.im)
def stepR (ar : List Int) (pre : List Pc) (x : Pc) : Bool :=
 (okP x && (!noC x.rw && (containsB ar x.rw && (match pre.getLast? with | none => true | some p => better x p)))) && apart pre x
def rGo (ar : List Int) : List Pc → List Pc → Bool
 | _, [] => true
 | pre, x :: l => stepR ar pre x && rGo ar (pre ++ [x]) l
theorem rGo_step {ar : List Int} {pre l : List Pc} {i : Nat} {p : Pc} (hp : l[i]? = some p) : rGo ar pre (l.drop i) = (stepR ar pre p && rGo ar (pre ++ [p]) (l.drop (i + 1))) := by
 obtain ⟨hi, rfl⟩ := List.getElem?_eq_some_iff.1 hp
 rw [List.drop_eq_getElem_cons hi, rGo]
theorem contains_rest {ar x : List Int} {pre : List Pc} (ha : validL ar = true) (hx : validL x = true) : containsB (rest ar pre) x = (containsB ar x && pre.all fun q => noC (meetL x q.rw)) := by
  rw [Bool.eq_iff_iff, Bool.and_eq_true, contains_iff (rest_valid pre ha) hx, contains_iff ha hx, List.all_eq_true]
  constructor
  · intro h
    refine ⟨fun u v hu hv hh => ?_, fun q hq => (noC_iff (meet_valid hx)).2 fun u v hu hv => ?_⟩
    · have := h u v hu hv hh
      rw [has_rest hv, Bool.and_eq_true] at this; exact this.1
    · rw [has_meet hv]
      cases hh : hasL x u v
      · rfl
      · have := h u v hu hv hh
        rw [has_rest hv, Bool.and_eq_true, List.all_eq_true] at this
        have := this.2 q hq
        simpa using this
  · rintro ⟨h1, h2⟩ u v hu hv hh
    rw [has_rest hv, h1 u v hu hv hh, Bool.true_and, List.all_eq_true]
    intro q hq
    have := (noC_iff (meet_valid hx)).1 (h2 q hq) u v hu hv
    rw [has_meet hv, hh, Bool.true_and] at this
    rw [this]; rfl
theorem stepR_eq {ar : List Int} {pre : List Pc} {x : Pc} (ha : validL ar = true) : stepOk (rest ar pre) pre x = stepR ar pre x := by
  unfold stepOk stepR apart
  cases ho : okP x
  · simp
  · rw [contains_rest ha (okP_v ho)]
    have hall : (pre.all fun q => noC (meetL x.rw q.rw) && !decide (q.im = x.im)) = ((pre.all fun q => noC (meetL x.rw q.rw)) && !pre.any fun p => decide (p.im = x.im)) := by
      induction pre with
      | nil => rfl
      | cons q l ih => rw [List.all_cons, List.all_cons, List.any_cons, ih]; cases noC (meetL x.rw q.rw) <;> cases decide (q.im = x.im) <;> simp
    rw [hall]
    cases noC x.rw <;> cases containsB ar x.rw <;> cases (pre.all fun q => noC (meetL x.rw q.rw)) <;> simp <;> rfl
theorem rGo_eq {ar : List Int} (ha : validL ar = true) : ∀ {l pre : List Pc}, vGo (rest ar pre) pre l = rGo ar pre l
 | [], _ => rfl
 | x :: l, pre => by rw [vGo, rGo, stepR_eq ha, ← rest_snoc, rGo_eq ha]
theorem rGo_all {ar : List Int} {l : List Pc} (ha : validL ar = true) : vGo ar [] l = rGo ar [] l := rGo_eq (pre := []) ha
theorem apart_snoc (pre : List Pc) (q x : Pc) : apart (pre ++ [q]) x = (apart pre x && (noC (meetL x.rw q.rw) && !decide (q.im = x.im))) := by
 unfold apart; rw [List.all_append]; simp
theorem apart_no {pre : List Pc} {x q : Pc} {k : Nat} (hq : pre[k]? = some q) (h : (noC (meetL x.rw q.rw) && !decide (q.im = x.im)) = false) : apart pre x = false := by
 cases r : apart pre x
 · rfl
 · have := List.all_eq_true.1 r q (List.mem_of_getElem? hq); rw [h] at this; cases this
def pieceAt (ps : List Pc) (c : Nat × Nat) : Option Pc := ps.find? fun p => hasB p.rw ((c.1 : Nat) : Int) ((c.2 : Nat) : Int)
def okR (ps qs : List Pc) (c : Nat × Nat) : Bool := match pieceAt qs c with
 | none => true
 | some y => match pieceAt ps c with
  | none => false
  | some x => !better y x
theorem vGo_has {F : List Int} : ∀ {l pre : List Pc}, vGo F pre l = true → validL F = true → (∀ p ∈ l, ∀ u v, u < 48 → v < 24 → hasL p.rw u v = true → hasL F u v = true) ∧ l.Pairwise fun p q => ∀ u v, u < 48 → v < 24 → hasL p.rw u v = true → hasL q.rw u v = false
  | [], _, _, _ => ⟨fun _ h => by (cases h), List.Pairwise.nil⟩
  | x :: l, pre, h, hF => by
    rw [vGo, Bool.and_eq_true] at h
    have hx := h.1
    simp only [stepOk, Bool.and_eq_true] at hx
    have hv := okP_v hx.1
    obtain ⟨h1, h2⟩ := vGo_has h.2 (less_valid hF)
    have hc := (contains_iff hF hv).1 hx.2.2.1
    refine ⟨fun p hp u v hu hv' hh => ?_, List.pairwise_cons.2 ⟨fun q hq u v hu hv' hh => ?_, h2⟩⟩
    · rcases List.mem_cons.1 hp with rfl | hp
      · exact hc u v hu hv' hh
      · have := h1 p hp u v hu hv' hh
        rw [has_less hv', Bool.and_eq_true] at this; exact this.1
    · cases k : hasL q.rw u v
      · rfl
      · have := h1 q hq u v hu hv' k
        rw [has_less hv', hh] at this; simp at this
theorem overL_okR {id ver id2 ver2 : Int} {ar : List Int} {ps qs : List Pc} (ha : validP id ver ar ps = true) (hb : validP id2 ver2 ar qs = true) : overL ps qs = (cellsTo ar 24).all (okR ps qs) := by
  have hok := validP_pcs ha
  obtain ⟨_, _, hva, _, hg⟩ := validP_t hb
  obtain ⟨h1, h2⟩ := vGo_has hg hva
  have hqo : ∀ p ∈ qs, okP p = true := vGo_pcs hg
  rw [Bool.eq_iff_iff]
  unfold overL
  rw [List.all_eq_true, List.all_eq_true]
  constructor
  · intro h c hc
    obtain ⟨c2, c1, _⟩ := mem_cells.1 hc
    unfold okR
    cases hy : pieceAt qs c with
    | none => rfl
    | some y =>
      obtain ⟨hm, hh⟩ := (find_has (ps := qs) c1 c2 hqo).1 y hy
      have := List.all_eq_true.1 (h y hm) c (mem_cells.2 ⟨c2, c1, hh⟩)
      exact this
  · intro h y hy
    rw [List.all_eq_true]
    intro c hc
    obtain ⟨c2, c1, hh⟩ := mem_cells.1 hc
    have hca : c ∈ cellsTo ar 24 := mem_cells.2 ⟨c2, c1, h1 y hy _ _ c1 c2 hh⟩
    have h9 := h c hca
    unfold okR at h9
    cases hf : pieceAt qs c with
    | none => exact absurd ⟨y, hy, hh⟩ ((find_has (ps := qs) c1 c2 hqo).2.1 hf)
    | some z =>
      obtain ⟨hm, hz⟩ := (find_has (ps := qs) c1 c2 hqo).1 z hf
      have e : z = y := by
        obtain ⟨i, hi⟩ := List.getElem?_of_mem hm
        obtain ⟨j, hj⟩ := List.getElem?_of_mem hy
        obtain ⟨i1, i2⟩ := List.getElem?_eq_some_iff.1 hi
        obtain ⟨j1, j2⟩ := List.getElem?_eq_some_iff.1 hj
        rw [List.pairwise_iff_getElem] at h2
        rcases Nat.lt_trichotomy i j with q | q | q
        · have := h2 i j i1 j1 q _ _ c1 c2 (by rw [i2]; exact hz)
          rw [j2, hh] at this; cases this
        · subst q; rw [← i2, ← j2]
        · have := h2 j i j1 i1 q _ _ c1 c2 (by rw [j2]; exact hh)
          rw [i2, hz] at this; cases this
      subst e
      rw [hf] at h9
      exact h9
def overR (id ver : Int) (ar : List Int) (ps : List Pc) (id2 ver2 : Int) (ar2 : List Int) (qs : List Pc) : Bool :=
 (validP id ver ar ps && validP id2 ver2 ar2 qs) && ((decide (id = id2) && decide (ar = ar2)) && (decide (ver2 < ver) && (cellsTo ar 24).all (okR ps qs)))
theorem overR_eq (id ver : Int) (ar : List Int) (ps : List Pc) (id2 ver2 : Int) (ar2 : List Int) (qs : List Pc) : overB id ver ar ps id2 ver2 ar2 qs = overR id ver ar ps id2 ver2 ar2 qs := by
 unfold overB overR
 cases ha : validP id ver ar ps
 · rfl
 cases hb : validP id2 ver2 ar2 qs
 · rfl
 by_cases e : ar = ar2
 · subst e; rw [overL_okR ha hb]
 · rw [decide_eq_false e]; simp
theorem all_step {α : Type} {f : α → Bool} {l : List α} {i : Nat} {x : α} (h : (l.take i).all f = true) (hx : l[i]? = some x) (hf : f x = true) : (l.take (i + 1)).all f = true := by
 rw [List.take_add_one, hx, List.all_append, h]; simp [hf]
theorem all_bad {α : Type} {f : α → Bool} {l : List α} {i : Nat} {x : α} (hx : l[i]? = some x) (hf : f x = false) : l.all f = false := by
 cases q : l.all f
 · rfl
 · have := List.all_eq_true.1 q x (List.mem_of_getElem? hx); rw [hf] at this; cases this
end Prod
end Go.Proofs.YtajdohcgjgknmaaGreatDoor

namespace Go.Proofs.YtajdohcgjgknmaaGreatDoor
set_option maxRecDepth 1000000
set_option maxHeartbeats 4000000
set_option synthInstance.maxHeartbeats 0
set_option synthInstance.maxSize 9999
open Go.RowKit
theorem rBetter_c {x y : Prod.Pc} {a b : Option Addr} {k c m d : Nat} (w : World) : Calls Tryz.prog 84 #[.agg #[iv x.im, iv x.t, .bool x.cl, .slice a k c], .agg #[iv y.im, iv y.t, .bool y.cl, .slice b m d]] w fun e w' => e = .returned (.bool (Prod.better x y)) ∧ Ext w w' := by
 cases hx : x.cl
 ·
  cases hy : y.cl
  ·
   refine calls_cw 27 [(1, .agg #[iv y.im, iv y.t, .bool false, .slice b m d]), (0, .agg #[iv x.im, iv x.t, .bool false, .slice a k c])] Tryz.func84 rfl Tryz.ntmps84 (by kernel_rfl) (by kernel_rfl) (fun L => ?_);have hE := Ext.refl w;refine zc (zp (pS (sw 49 #[iv x.im, iv x.t, .bool false, .slice a k c] ?_)));intro O1 X2 Bg Bj hb hbx;have ⟨B0, B3, B2, B4⟩ := bq4 hbx;replace hE := hE.trans hb;have Bo := hb.size;have Bl := B0.lt;refine pS (sw 49 #[iv y.im, iv y.t, .bool false, .slice b m d] ?_);intro O5 X6 Bi Bh hb hbx;have ⟨B6, B7, Ba, Bf⟩ := bq4 hbx;refine mv5 hb hE B0 B3 B2 B4 fun hE B0 B3 B2 B4=>?_;have Bk := hb.size;have Bm := B6.lt;refine pT (.bool false) ?_;refine zn (zc (zc (zp (pT (pw O1 2) ?_))));refine pU (.bool false) (xl (ld4 (B2.1))) ?_;refine pT (pw O5 2) ?_;refine pU (.bool false) (xl (ld4 (Ba.1))) ?_;refine pT (.bool false) ?_;refine zn (zf ?_);refine cw_skip (zq (zc (zc (zp (pT (pw O1 1) ?_)))));refine pU (iv x.t) (xl (ld3 (B3.1))) ?_;refine pT (pw O5 1) ?_;refine pU (iv y.t) (xl (ld3 (B7.1))) ?_
   by_cases Be : (x.t : Int) = (y.t : Int)
   ·
    refine pU (.bool false) (ev_nne (show _ = Result.ok (Next.value (Value.bool ((x.t : Int) != (y.t : Int)))) _ from by kernel_rfl) (Be)) ?_;refine zn (cK [2,3,16] (fun L => ?_));refine zf ?_;refine cw_skip (zq (zc (zp (pT (pw O1 0) ?_))));refine pU (iv x.im) (xl (ld3 (B0.1))) ?_;refine pT (pw O5 0) ?_;refine pU (iv y.im) (xl (ld3 (B6.1))) ?_
    by_cases Bc : (x.im : Int) > (y.im : Int)
    ·
     refine pU (.bool true) (ed ((x.im : Int) > (y.im : Int)) (Bc)) ?_;refine pT (.bool true) ?_;refine zn (cw_ret (qw_ret [.bool true] rfl ⟨(by kernel_rfl), trivial⟩ ?_));exact ⟨rb (show Prod.better x y = true by unfold Prod.better Prod.bet; simp [hx, hy, Be, Bc]).symm, hE⟩
    ·
     refine pU (.bool false) (en ((x.im : Int) > (y.im : Int)) (Bc)) ?_;refine pT (.bool false) ?_;refine zn (cw_ret (qw_ret [.bool false] rfl ⟨(by kernel_rfl), trivial⟩ ?_));exact ⟨rb (show Prod.better x y = false by unfold Prod.better Prod.bet; simp [hx, hy, Be, Bc]).symm, hE⟩
   ·
    refine pU (.bool true) (eM (x.t : Int) (y.t : Int) (Be)) ?_;refine zn (cK [2,3,16] (fun L => ?_));refine zt ?_;refine zc (zp (pT (pw O1 1) ?_));refine pU (iv x.t) (xl (ld3 (B3.1))) ?_;refine pT (pw O5 1) ?_;refine pU (iv y.t) (xl (ld3 (B7.1))) ?_
    by_cases Bb : (x.t : Int) > (y.t : Int)
    ·
     refine pU (.bool true) (ed ((x.t : Int) > (y.t : Int)) (Bb)) ?_;refine pT (.bool true) ?_;refine zn (cw_ret (qw_then_ret (qw_ret [.bool true] rfl ⟨(by kernel_rfl), trivial⟩ ?_)));exact ⟨rb (show Prod.better x y = true by unfold Prod.better Prod.bet; simp [hx, hy, Be, Bb]).symm, hE⟩
    ·
     refine pU (.bool false) (en ((x.t : Int) > (y.t : Int)) (Bb)) ?_;refine pT (.bool false) ?_;refine zn (cw_ret (qw_then_ret (qw_ret [.bool false] rfl ⟨(by kernel_rfl), trivial⟩ ?_)));exact ⟨rb (show Prod.better x y = false by unfold Prod.better Prod.bet; simp [hx, hy, Be, Bb]).symm, hE⟩
  ·
   refine calls_cw 27 [(1, .agg #[iv y.im, iv y.t, .bool true, .slice b m d]), (0, .agg #[iv x.im, iv x.t, .bool false, .slice a k c])] Tryz.func84 rfl Tryz.ntmps84 (by kernel_rfl) (by kernel_rfl) (fun L => ?_);have hE := Ext.refl w;refine zc (zp (pS (sw 49 #[iv x.im, iv x.t, .bool false, .slice a k c] ?_)));intro O1 X2 Bg Bj hb hbx;have ⟨B0, B3, B2, B4⟩ := bq4 hbx;replace hE := hE.trans hb;have Bo := hb.size;have Bl := B0.lt;refine pS (sw 49 #[iv y.im, iv y.t, .bool true, .slice b m d] ?_);intro O5 X6 Bi Bh hb hbx;have ⟨B6, B7, Ba, Bf⟩ := bq4 hbx;refine mv5 hb hE B0 B3 B2 B4 fun hE B0 B3 B2 B4=>?_;have Bk := hb.size;have Bm := B6.lt;refine pT (.bool false) ?_;refine zn (zc (zc (zp (pT (pw O1 2) ?_))));refine pU (.bool false) (xl (ld4 (B2.1))) ?_;refine pT (pw O5 2) ?_;refine pU (.bool true) (xl (ld4 (Ba.1))) ?_;refine pT (.bool true) ?_;refine zn (zt ?_);refine zc (zp (pT (pw O1 2) ?_));refine pU (.bool false) (xl (ld4 (B2.1))) ?_;refine pT (.bool false) ?_;refine zn (cw_ret (qw_then_ret (qw_ret [.bool false] rfl ⟨(by kernel_rfl), trivial⟩ ?_)));exact ⟨rb (show Prod.better x y = false by unfold Prod.better Prod.bet; simp [hx, hy]).symm, hE⟩
 ·
  cases hy : y.cl
  ·
   refine calls_cw 27 [(1, .agg #[iv y.im, iv y.t, .bool false, .slice b m d]), (0, .agg #[iv x.im, iv x.t, .bool true, .slice a k c])] Tryz.func84 rfl Tryz.ntmps84 (by kernel_rfl) (by kernel_rfl) (fun L => ?_);have hE := Ext.refl w;refine zc (zp (pS (sw 49 #[iv x.im, iv x.t, .bool true, .slice a k c] ?_)));intro O1 X2 Bg Bj hb hbx;have ⟨B0, B3, B2, B4⟩ := bq4 hbx;replace hE := hE.trans hb;have Bo := hb.size;have Bl := B0.lt;refine pS (sw 49 #[iv y.im, iv y.t, .bool false, .slice b m d] ?_);intro O5 X6 Bi Bh hb hbx;have ⟨B6, B7, Ba, Bf⟩ := bq4 hbx;refine mv5 hb hE B0 B3 B2 B4 fun hE B0 B3 B2 B4=>?_;have Bk := hb.size;have Bm := B6.lt;refine pT (.bool false) ?_;refine zn (zc (zc (zp (pT (pw O1 2) ?_))));refine pU (.bool true) (xl (ld4 (B2.1))) ?_;refine pT (pw O5 2) ?_;refine pU (.bool false) (xl (ld4 (Ba.1))) ?_;refine pT (.bool true) ?_;refine zn (zt ?_);refine zc (zp (pT (pw O1 2) ?_));refine pU (.bool true) (xl (ld4 (B2.1))) ?_;refine pT (.bool true) ?_;refine zn (cw_ret (qw_then_ret (qw_ret [.bool true] rfl ⟨(by kernel_rfl), trivial⟩ ?_)));exact ⟨rb (show Prod.better x y = true by unfold Prod.better Prod.bet; simp [hx, hy]).symm, hE⟩
  ·
   refine calls_cw 27 [(1, .agg #[iv y.im, iv y.t, .bool true, .slice b m d]), (0, .agg #[iv x.im, iv x.t, .bool true, .slice a k c])] Tryz.func84 rfl Tryz.ntmps84 (by kernel_rfl) (by kernel_rfl) (fun L => ?_);have hE := Ext.refl w;refine zc (zp (pS (sw 49 #[iv x.im, iv x.t, .bool true, .slice a k c] ?_)));intro O1 X2 Bg Bj hb hbx;have ⟨B0, B3, B2, B4⟩ := bq4 hbx;replace hE := hE.trans hb;have Bo := hb.size;have Bl := B0.lt;refine pS (sw 49 #[iv y.im, iv y.t, .bool true, .slice b m d] ?_);intro O5 X6 Bi Bh hb hbx;have ⟨B6, B7, Ba, Bf⟩ := bq4 hbx;refine mv4 hb hE B0 B3 B2 fun hE B0 B3 B2=>?_;have Bk := hb.size;have Bm := B6.lt;refine pT (.bool false) ?_;refine zn (zc (zc (zp (pT (pw O1 2) ?_))));refine pU (.bool true) (xl (ld4 (B2.1))) ?_;refine pT (pw O5 2) ?_;refine pU (.bool true) (xl (ld4 (Ba.1))) ?_;refine pT (.bool false) ?_;refine zn (zf ?_);refine cw_skip (zq (zc (zc (zp (pT (pw O1 1) ?_)))));refine pU (iv x.t) (xl (ld3 (B3.1))) ?_;refine pT (pw O5 1) ?_;refine pU (iv y.t) (xl (ld3 (B7.1))) ?_
   by_cases Be : (x.t : Int) = (y.t : Int)
   ·
    refine pU (.bool false) (ev_nne (show _ = Result.ok (Next.value (Value.bool ((x.t : Int) != (y.t : Int)))) _ from by kernel_rfl) (Be)) ?_;refine zn (cK [2,3,16] (fun L => ?_));refine zf ?_;refine cw_skip (zq (zc (zp (pT (pw O1 0) ?_))));refine pU (iv x.im) (xl (ld3 (B0.1))) ?_;refine pT (pw O5 0) ?_;refine pU (iv y.im) (xl (ld3 (B6.1))) ?_
    by_cases Bc : (x.im : Int) > (y.im : Int)
    ·
     refine pU (.bool true) (ed ((x.im : Int) > (y.im : Int)) (Bc)) ?_;refine pT (.bool true) ?_;refine zn (cw_ret (qw_ret [.bool true] rfl ⟨(by kernel_rfl), trivial⟩ ?_));exact ⟨rb (show Prod.better x y = true by unfold Prod.better Prod.bet; simp [hx, hy, Be, Bc]).symm, hE⟩
    ·
     refine pU (.bool false) (en ((x.im : Int) > (y.im : Int)) (Bc)) ?_;refine pT (.bool false) ?_;refine zn (cw_ret (qw_ret [.bool false] rfl ⟨(by kernel_rfl), trivial⟩ ?_));exact ⟨rb (show Prod.better x y = false by unfold Prod.better Prod.bet; simp [hx, hy, Be, Bc]).symm, hE⟩
   ·
    refine pU (.bool true) (eM (x.t : Int) (y.t : Int) (Be)) ?_;refine zn (cK [2,3,16] (fun L => ?_));refine zt ?_;refine zc (zp (pT (pw O1 1) ?_));refine pU (iv x.t) (xl (ld3 (B3.1))) ?_;refine pT (pw O5 1) ?_;refine pU (iv y.t) (xl (ld3 (B7.1))) ?_
    by_cases Bb : (x.t : Int) > (y.t : Int)
    ·
     refine pU (.bool true) (ed ((x.t : Int) > (y.t : Int)) (Bb)) ?_;refine pT (.bool true) ?_;refine zn (cw_ret (qw_then_ret (qw_ret [.bool true] rfl ⟨(by kernel_rfl), trivial⟩ ?_)));exact ⟨rb (show Prod.better x y = true by unfold Prod.better Prod.bet; simp [hx, hy, Be, Bb]).symm, hE⟩
    ·
     refine pU (.bool false) (en ((x.t : Int) > (y.t : Int)) (Bb)) ?_;refine pT (.bool false) ?_;refine zn (cw_ret (qw_then_ret (qw_ret [.bool false] rfl ⟨(by kernel_rfl), trivial⟩ ?_)));exact ⟨rb (show Prod.better x y = false by unfold Prod.better Prod.bet; simp [hx, hy, Be, Bb]).symm, hE⟩
theorem rBetter_r {x y : Prod.Pc} {a b : Option Addr} {k c m d : Nat} {r : Bool} (w : World) (hr : Prod.better x y = r) : Calls Tryz.prog 84 #[.agg #[.int .i64 x.im, .int .i64 x.t, .bool x.cl, .slice a k c], .agg #[.int .i64 y.im, .int .i64 y.t, .bool y.cl, .slice b m d]] w fun e w' => e = .returned (.bool r) ∧ Ext w w' := hr ▸ rBetter_c w
end Go.Proofs.YtajdohcgjgknmaaGreatDoor

namespace Go.Proofs.YtajdohcgjgknmaaGreatDoor
open Go.ChangeShapes Go.WideShapes Go.ChangeAt Go.RowKit
theorem own : ownKnob Tryz.prog.godebug = none := by kernel_rfl
theorem laidOut : laidOutB Tryz.prog = true := by kernel_rfl
def laidTabs : List (String × DataW Unit) := [("math/bits.deBruijn32tab", Rows.laid_math_bits_deBruijn32tab), ("math/bits.deBruijn64tab", Rows.laid_math_bits_deBruijn64tab)]
theorem gTab : Tryz.prog.globalNamed "math/bits.deBruijn64tab" = some 1 := by kernel_rfl
theorem tTab : (Tryz.prog.globals[1]?).map (·.type) = some 171 := by kernel_rfl
theorem door_met (os : Os) (args : Array Value) : laidMetH Tryz.prog laidTabs ((World.doorLaid Tryz.prog 19 os).forCall (fun _ _ => 0) ⟨#[], args, []⟩).memory :=
 laidMetH_of_parts3 (fuel := 8) (laidMet_of_run' 8 (by kernel_rfl) (by kernel_rfl)) (by kernel_rfl) (by kernel_rfl)
theorem tab_of_laid {W : World} (h : laidMetH Tryz.prog laidTabs W) : Tab W := by
 rw [MakeChecks.laidMetH_plain _ _ _ (by kernel_rfl)] at h
 have h2 : laidMet Tryz.prog [("math/bits.deBruijn64tab", Lib.tabData .u8 (Lib.deBruijn64tab.map Int.ofNat))] W := laidMet.tail h
 have ht := Lib.tabIs_of_head gTab tTab Tryz.underlying171 Tryz.underlying5 (by kernel_rfl) (by kernel_rfl) h2
 have hc : ∀ j, j < 64 → W.cell? ⟨1, j, none⟩ = some (.int .u8 (Lib.deBruijn64tab.getD j 0)) := fun j hj => by
  have := Lib.TabIs.cell ht gTab j (by rw [List.length_map]; exact hj)
  rw [this]
  simp [List.getD_eq_getElem?_getD, List.getElem?_map]
  rw [List.getElem?_eq_getElem (show j < Lib.deBruijn64tab.length from hj)]
  rfl
 exact ⟨World.block_lt_of_cell? W _ (hc 0 (by decide)), hc⟩
theorem isI_of_wf {n : Int} (h : (Lit.int .i64 n).wf = true) : IsI n := by
 simp [Lit.wf, IntKind.min, IntKind.max, IntKind.signed, IntKind.bits] at h
 exact ⟨by omega, by omega⟩
end Go.Proofs.YtajdohcgjgknmaaGreatDoor

namespace Go.Proofs.YtajdohcgjgknmaaGreatDoor
open Go.ChangeShapes Go.WideShapes Go.ChangeAt Go.RowKit Go.Deep
section
variable {H : Type} {enc : TypeId × Value → H} {W : World}
theorem ints_of_array {spare : Nat → Bool} {held : Bool} {t : TypeId} {k fuel : Nat} {cs : List Value} {x : DataW H × List MemPlace} (ht : Tryz.prog.underlying t = some (.array k 3)) (h : DataW.trod enc Tryz.prog W 0 spare held fuel t cs = some x) (hc : cs.length = k) :
  ∃ q : Nat → Int, ∀ j, j < k → cs[j]? = some (.int .i64 (q j)) ∧ IsI (q j) := by
 obtain ⟨xs, m, rfl, hx, hlen, hxl, hg⟩ := DataW.trod_array ht h
 have hone : Tryz.prog.cellsOf 3 = 1 := by kernel_rfl
 have each : ∀ j, j < k → ∃ n : Int, cs[j]? = some (.int .i64 n) ∧ IsI n := fun j hj => by
  have h1 := hg j hj
  rw [hone, Nat.mul_one] at h1
  have hx : xs[j]? = some (xs[j]'(by omega)) := List.getElem?_eq_getElem (by omega)
  rw [hx] at h1
  obtain ⟨n, hn, _, hw⟩ := DataW.trod_int Tryz.underlying3 h1
  have hcj : cs[j]? = some (.int .i64 n) := by
   have e : ((cs.drop j).take 1)[0]? = some (.int .i64 n) := by rw [hn]; rfl
   rw [List.getElem?_take_of_lt (by omega), List.getElem?_drop, Nat.add_zero] at e
   exact e
  exact ⟨n, hcj, isI_of_wf hw⟩
 obtain ⟨q, hq⟩ := choose_lt each
 exact ⟨q, hq⟩
end
def Quads (w : World) (v : Value) : Prop := ∃ (a : Option Addr) (n c : Nat) (q : Nat → Nat → Int), v = .slice a n c ∧ n ≤ c ∧ c ≤ 9223372036854775807 ∧ (a = none → c = 0) ∧ QAt w a n q
section
variable {H : Type} {enc : TypeId × Value → H} {W : World}
set_option maxRecDepth 100000 in
theorem open_quads {b0 : Nat} {v : Value} {d : DataW H} {p : List MemPlace} (hval : Value.okWide Tryz.prog W .any b0 23 v) (h : DataW.Trod enc Tryz.prog W 0 (fun _ => true) true 23 v d p) : Quads W v := by
  obtain ⟨a, n, c, rfl⟩ := okWide_slice Tryz.underlying23 hval
  obtain ⟨fuel, hf⟩ := h
  rcases open_slice Tryz.underlying23 hf with ⟨hcs, _⟩ | ⟨a', len, cap, m, k, D, Pl, hcs, hb, hl, hm, hmm, _, hx⟩
  · simp [Value.cells] at hcs
    obtain ⟨rfl, rfl, rfl⟩ := hcs
    exact ⟨none, 0, 0, fun _ _ => 0, rfl, by omega, by omega, fun _ => rfl, .inl rfl⟩
  · simp [Value.cells] at hcs
    obtain ⟨rfl, rfl, rfl⟩ := hcs
    unfold maxLen at hm
    rcases Nat.eq_zero_or_pos n with h0 | h0
    · exact ⟨_, _, _, fun _ _ => 0, rfl, by omega, by omega, (fun e => by cases e), .inl h0⟩
    · have h4 : Tryz.prog.cellsOf 36 = 4 := by kernel_rfl
      rw [h4] at hx
      simp only [if_true] at hmm
      subst hmm
      have each : ∀ i, i < n → ∃ q : Nat → Int, ∀ j, j < 4 → W.cell? (a'.add (i * 4 + j)) = some (.int .i64 (q j)) ∧ IsI (q j) := fun i hi => by
        obtain ⟨cs', hc1, hc2⟩ := hx i (by omega)
        obtain ⟨_, hcl, hat⟩ := World.cells?_some hc1
        obtain ⟨q, hq⟩ := ints_of_array Tryz.underlying36 hc2 hcl
        refine ⟨q, fun j hj => ⟨?_, (hq j hj).2⟩⟩
        rw [← Go.Deep.add_add, hat j hj]
        exact (hq j hj).1
      obtain ⟨q, hq⟩ := choose_lt each
      obtain ⟨b, off, spot⟩ := a'
      have hspot : spot = none := by have := World.cell?_spot (hq 0 h0 0 (by omega)).1; simpa [Addr.add] using this
      subst hspot
      refine ⟨_, _, _, q, rfl, by omega, by omega, (fun e => by cases e), .inr ⟨b, off, rfl, fun i hi j hj => ?_⟩⟩
      have := hq i hi j hj
      rw [add_plain, ← Nat.add_assoc] at this
      exact this
end
end Go.Proofs.YtajdohcgjgknmaaGreatDoor

namespace Go.Proofs.YtajdohcgjgknmaaGreatDoor
open Go.RowKit
theorem PcsS.nowS {S : Nat → Prop} {w : World} {a : Option Addr} {n : Nat} {l : List Prod.Pc} (h : PcsS S w a n l) : PcsS (fun k => S k ∧ k < w.heap.size) w a n l := by
  obtain ⟨rs, h1, h2, h3, h4⟩ := h
  refine ⟨rs, h1, h2, fun q ad e => ⟨h3 q ad e, ?_⟩, fun x hx q ad e => ⟨h4 x hx q ad e, ?_⟩⟩
  · obtain ⟨g1, g2, g3⟩ := h1
    rcases g3 with g3 | ⟨b, o, e', hx⟩
    · omega
    · rw [e] at e'; cases e'
      exact World.block_lt_of_cell? _ _ (hx 0 _ (List.getElem?_eq_getElem (by omega))).1
  · obtain ⟨i, hi⟩ := List.getElem?_of_mem hx
    obtain ⟨p, hp, e1, e2, e3, e4⟩ := h2.at hi
    exact aa_lt e4 q ad e
theorem RawsAt.take {w : World} {a : Option Addr} {n : Nat} {rs : List RawPc} (h : RawsAt w a n rs) {k : Nat} (hk : k ≤ n) : RawsAt w a k (rs.take k) := by
  obtain ⟨h1, h2, h3⟩ := h
  refine ⟨by rw [List.length_take]; omega, by omega, ?_⟩
  rcases h3 with h3 | ⟨b, o, ha, hx⟩
  · exact .inl (by omega)
  · refine .inr ⟨b, o, ha, fun i x hi => hx i x ?_⟩
    rw [List.getElem?_take] at hi
    split at hi
    · exact hi
    · cases hi
theorem RawsAt.drop {w : World} {a : Option Addr} {n : Nat} {rs : List RawPc} (h : RawsAt w a n rs) {k c : Nat} (hk : k ≤ n) (hc : n ≤ c) : RawsAt w (if c = k then a else a.map (fun x => x.add (k * 4))) (n - k) (rs.drop k) := by
  obtain ⟨h1, h2, h3⟩ := h
  refine ⟨by rw [List.length_drop, h1], by omega, ?_⟩
  by_cases h0 : n = k
  · exact .inl (by omega)
  · rcases h3 with h3 | ⟨b, o, rfl, hx⟩
    · exact .inl (by omega)
    · rw [if_neg (by omega)]
      refine .inr ⟨b, o + k * 4, by rw [Option.map_some, Addr.add_mid], fun i x hi => ?_⟩
      rw [List.getElem?_drop] at hi
      have := hx (k + i) x hi
      rwa [show o + (k + i) * 4 = o + k * 4 + i * 4 by rw [Nat.add_mul]; omega] at this
theorem Reads.take {w : World} {rs : List RawPc} {l : List Prod.Pc} (h : Reads w rs l) (k : Nat) : Reads w (rs.take k) (l.take k) := by
  have e := h.len
  refine Reads.of_at (by rw [List.length_take, List.length_take, e]) fun i x p hx hp => ?_
  rw [List.getElem?_take] at hx hp
  split at hx
  · rename_i hi
    rw [if_pos hi] at hp
    obtain ⟨q, hq, hr⟩ := h.at hx
    rw [hp] at hq; cases hq; exact hr
  · cases hx
theorem Reads.drop {w : World} {rs : List RawPc} {l : List Prod.Pc} (h : Reads w rs l) (k : Nat) : Reads w (rs.drop k) (l.drop k) := by
 have e := h.len
 refine Reads.of_at (by rw [List.length_drop, List.length_drop, e]) fun i x p hx hp => ?_
 rw [List.getElem?_drop] at hx hp
 obtain ⟨q, hq, hr⟩ := h.at hx
 rw [hp] at hq; cases hq; exact hr
theorem PcsAt.drop {w : World} {a : Option Addr} {n : Nat} {l : List Prod.Pc} (h : PcsAt w a n l) {k c : Nat} (hk : k ≤ n) (hc : n ≤ c) : PcsAt w (if c = k then a else a.map (fun x => x.add (k * 4))) (n - k) (l.drop k) := by
 obtain ⟨rs, h1, h2⟩ := h; exact ⟨_, h1.drop hk hc, h2.drop k⟩
theorem raws_own {n₀ e g n cap : Nat} {w : World} {rs : List RawPc} (h : OwnL rawR n₀ e 4 (.slice (some ⟨g, 0, none⟩) n cap) w rs) (hl : rs.length = n) (hn : n ≤ 1000) : RawsAt w (some ⟨g, 0, none⟩) n rs := by
 have := holds_raws (own_holds h hl) (by omega)
 rwa [hl] at this
theorem app_raws {n₀ : Nat} {w : World} {l xs : List RawPc} {g0 k cap0 m c : Nat} {a : Option Addr} (h : OwnL rawR n₀ 49 4 (.slice (some ⟨g0, 0, none⟩) k cap0) w l) (hn : n₀ ≤ w.heap.size) (hl : l.length = k) (hk : k ≤ cap0) (hx : RawsAt w a m xs) (hb : k + m ≤ 1000) :
    ∃ g cap w', (Builtin.append_ #[30, 30] 30 #[.slice (some ⟨g0, 0, none⟩) k cap0, .slice a m c]).run Tryz.prog w = .ok (.slice (some ⟨g, 0, none⟩) (k + m) cap) w' ∧ OwnL rawR n₀ 49 4 (.slice (some ⟨g, 0, none⟩) (k + m) cap) w' (l ++ xs) ∧ Grew n₀ w w' ∧ w.grownBy w' (some g0) ∧ k + m ≤ cap ∧ (g = g0 ∨ w.heap.size ≤ g) := by
  obtain ⟨h1, h2, h3⟩ := hx
  rcases Nat.eq_zero_or_pos m with h0 | h0
  · subst h0
    obtain rfl := List.eq_nil_of_length_eq_zero h1
    refine ⟨g0, cap0, w, app_none pieceT hk, by rw [List.append_nil]; exact h, ⟨Nat.le_refl _, fun U hU _ => hU⟩, ⟨rfl, rfl, rfl, Nat.le_refl _, fun _ _ _ => rfl⟩, hk, .inl rfl⟩
  · rcases h3 with h3 | ⟨b, o, rfl, hx⟩
    · omega
    subst hl
    obtain ⟨cs, q2, q3, q4, q5⟩ := h
    obtain ⟨i, hi, hz0, hz1, hz2⟩ := info_parts (pieceT).info
    have hds : ∀ d ∈ xs.map RawPc.enc, d.length = 4 := fun d hd => by obtain ⟨x, _, rfl⟩ := List.mem_map.1 hd; rfl
    have hone : ∀ u ∈ (xs.map RawPc.enc).flatten, u.oneCell' = true := fun u hu => by
      obtain ⟨d, hd, hu⟩ := List.mem_flatten.1 hu
      obtain ⟨x, _, rfl⟩ := List.mem_map.1 hd
      exact enc_one x u hu
    obtain ⟨v', w', hrun, hown, hg, hiff, hat⟩ := run_append_own_at (P := Tryz.prog) w n₀ 30 30 49 i _ 4 48 (pieceT).under hi hz0 hz1 hz2 (pieceT).zs (pieceT).pos _ l.length cs.flatten q4 ⟨b, o, none⟩ m c (xs.map RawPc.enc).flatten (by rw [flatten_len hds, List.length_map, h1]) (raws_flat hx) hone (by unfold maxLen; omega) (by omega) hn
    rcases hown.2 with ⟨q, _⟩ | ⟨g, cap, cur, q, _, _, hc9, _⟩
    · have := (hiff.1 q).2; omega
    · subst q
      refine ⟨g, cap, w', hrun, ⟨cs ++ xs.map RawPc.enc, by simp [q2], ?_, by rw [List.flatten_append, List.length_append, h1]; exact hown, ?_⟩, ⟨hg.size, fun U hU hUn => Ext.own' hU q4 hUn hg⟩, hg, hc9, ?_⟩
      · intro d hd
        rcases List.mem_append.1 hd with hd | hd
        · exact q3 d hd
        · exact hds d hd
      · intro j x d hx' hd
        rcases Nat.lt_or_ge j l.length with hj | hj
        · rw [List.getElem?_append_left hj] at hx'
          rw [List.getElem?_append_left (by rw [q2]; exact hj)] at hd
          obtain ⟨F, ⟨k1, k2⟩, _⟩ := q5 j x d hx' hd
          exact ⟨[], ⟨k1, rfl⟩, fun b hb => by cases hb⟩
        · rw [List.getElem?_append_right hj] at hx'
          rw [List.getElem?_append_right (by rw [q2]; exact hj), q2, List.getElem?_map, hx'] at hd
          cases hd
          exact ⟨[], ⟨rfl, rfl⟩, fun b hb => by cases hb⟩
      · rcases hat with e1 | e1
        · exact .inl (Option.some.inj e1)
        · exact .inr (Nat.le_of_eq (Option.some.inj e1).symm)
end Go.Proofs.YtajdohcgjgknmaaGreatDoor

namespace Go.Proofs.YtajdohcgjgknmaaGreatDoor
open Go.RowKit
set_option maxHeartbeats 1000000 in
theorem rHas_c {w0 : World} {a : Option Addr} {l : List Int} {n : Nat} (c : Nat) {v : Bool} (x y : Int) (w : World) (h : AA w0 a l n v) (hE : Ext w0 w) :
    Calls Tryz.prog 120 #[.agg #[.slice a n c], .agg #[.int .i64 x, .int .i64 y]] w fun e w' => e = .returned (.bool (hasB l x y)) ∧ Ext w w' := by
  replace h := h.ext hE; clear hE
  have hv := h.2.2.2
  have hh : hasB l x y = (v && Globe.vcB x y && Globe.hasL l x.toNat y.toNat) := by unfold hasB; rw [hv]
  rw [hh]
  clear hh
  cases v
  · have H := Lib.hid h; clear h hv
    go_enter Tryz.func120, Tryz.ntmps120
    go_wp2_with (first | (go_at_call 74; refine (rValid_c _ _ H.out (by (repeat' (first | (with_reducible assumption) | (with_reducible exact Ext.refl _) | (with_reducible refine Ext.alloc ?_ _) | (with_reducible refine Ext.drew ?_) | (with_reducible refine Ext.drewN ?_ _) | (with_reducible refine Ext.setCell ?_ ?_ _) | (with_reducible refine Ext.trans ?_ (by assumption)) | go_size)))).mono ?_; rintro e w1 ⟨rfl, hb⟩; have hc := hb.cellE; have hf := hb.frozenE; have hz := hb.size; have ha := alloc_keeps w1; (try simp only [World.size_alloc] at hc hf hz); (try simp only [World.size_setCell] at hc hf hz); (try simp only [World.size_drew] at hc hf hz)))
    go_ret
    exact ⟨rfl, by (repeat' (first | (with_reducible assumption) | (with_reducible exact Ext.refl _) | (with_reducible refine Ext.alloc ?_ _) | (with_reducible refine Ext.drew ?_) | (with_reducible refine Ext.drewN ?_ _) | (with_reducible refine Ext.setCell ?_ ?_ _) | (with_reducible refine Ext.trans ?_ (by assumption)) | go_size))⟩
  · cases h1 : Globe.vcB x y
    · have H := Lib.hid h; clear h hv
      go_enter Tryz.func120, Tryz.ntmps120
      go_wp2_with (first | (go_at_call 74; refine (rValid_c _ _ H.out (by (repeat' (first | (with_reducible assumption) | (with_reducible exact Ext.refl _) | (with_reducible refine Ext.alloc ?_ _) | (with_reducible refine Ext.drew ?_) | (with_reducible refine Ext.drewN ?_ _) | (with_reducible refine Ext.setCell ?_ ?_ _) | (with_reducible refine Ext.trans ?_ (by assumption)) | go_size)))).mono ?_; rintro e w1 ⟨rfl, hb⟩; have hc := hb.cellE; have hf := hb.frozenE; have hz := hb.size; have ha := alloc_keeps w1; (try simp only [World.size_alloc] at hc hf hz); (try simp only [World.size_setCell] at hc hf hz); (try simp only [World.size_drew] at hc hf hz)) | (go_at_call 137; refine (rValidCell_c _ _ _).mono ?_; rw [h1]; rintro e w2 ⟨rfl, B3⟩; have B0 := B3.cellE; have B2 := B3.frozenE; have B4 := B3.size; have B6 := alloc_keeps w2; (try simp only [World.size_alloc] at B0 B2 B4); (try simp only [World.size_setCell] at B0 B2 B4); (try simp only [World.size_drew] at B0 B2 B4)))
      go_ret
      exact ⟨rfl, by (repeat' (first | (with_reducible assumption) | (with_reducible exact Ext.refl _) | (with_reducible refine Ext.alloc ?_ _) | (with_reducible refine Ext.drew ?_) | (with_reducible refine Ext.drewN ?_ _) | (with_reducible refine Ext.setCell ?_ ?_ _) | (with_reducible refine Ext.trans ?_ (by assumption)) | go_size))⟩
    · obtain ⟨x0, x1, y0, y1⟩ := Globe.vcB_t.1 h1
      obtain ⟨b, o, rfl, rfl, r⟩ := h.va
      obtain ⟨X, rfl⟩ := Int.eq_ofNat_of_zero_le x0
      obtain ⟨Y, rfl⟩ := Int.eq_ofNat_of_zero_le y0
      have H := Lib.hid r; clear h hv r
      rw [Int.toNat_natCast, Int.toNat_natCast]
      go_enter Tryz.func120, Tryz.ntmps120
      go_wp2_with (first | (go_at_call 74; refine (rValid_c _ _ H.out.aa (by (repeat' (first | (with_reducible assumption) | (with_reducible exact Ext.refl _) | (with_reducible refine Ext.alloc ?_ _) | (with_reducible refine Ext.drew ?_) | (with_reducible refine Ext.drewN ?_ _) | (with_reducible refine Ext.setCell ?_ ?_ _) | (with_reducible refine Ext.trans ?_ (by assumption)) | go_size)))).mono ?_; rintro e w1 ⟨rfl, hb⟩; have hc := hb.cellE; have hf := hb.frozenE; have hz := hb.size; have ha := alloc_keeps w1; (try simp only [World.size_alloc] at hc hf hz); (try simp only [World.size_setCell] at hc hf hz); (try simp only [World.size_drew] at hc hf hz)) | (go_at_call 137; refine (rValidCell_c _ _ _).mono ?_; rw [h1]; rintro e w2 ⟨rfl, B3⟩; have B0 := B3.cellE; have B2 := B3.frozenE; have B4 := B3.size; have B6 := alloc_keeps w2; (try simp only [World.size_alloc] at B0 B2 B4); (try simp only [World.size_setCell] at B0 B2 B4); (try simp only [World.size_drew] at B0 B2 B4)) | (go_at_call 119; refine (rhas_v _ _ H.out (by (repeat' (first | (with_reducible assumption) | (with_reducible exact Ext.refl _) | (with_reducible refine Ext.alloc ?_ _) | (with_reducible refine Ext.drew ?_) | (with_reducible refine Ext.drewN ?_ _) | (with_reducible refine Ext.setCell ?_ ?_ _) | (with_reducible refine Ext.trans ?_ (by assumption)) | go_size))) (by omega) (by omega) rfl).mono ?_; rintro e w3 ⟨rfl, B7⟩))
      go_ret
      exact ⟨rfl, by (repeat' (first | (with_reducible assumption) | (with_reducible exact Ext.refl _) | (with_reducible refine Ext.alloc ?_ _) | (with_reducible refine Ext.drew ?_) | (with_reducible refine Ext.drewN ?_ _) | (with_reducible refine Ext.setCell ?_ ?_ _) | (with_reducible refine Ext.trans ?_ (by assumption)) | go_size))⟩
theorem rValid_q {v r : Bool} {w0 : World} {a : Option Addr} {l : List Int} {n : Nat} (c : Nat) (w : World) (h : AA w0 a l n v) (hE : Ext w0 w) (hr : v = r) : Calls Tryz.prog 74 #[.agg #[.slice a n c]] w fun e w' => e = .returned (.bool r) ∧ Ext w w' := hr ▸ rValid_c c w h hE
theorem rHas_q {a : Option Addr} {l : List Int} {n : Nat} {b r : Bool} (c : Nat) {x y : Int} {w0 : World} (w : World) (h : AA w0 a l n b) (hE : Ext w0 w) (hr : hasB l x y = r) : Calls Tryz.prog 120 #[.agg #[.slice a n c], .agg #[.int .i64 x, .int .i64 y]] w fun e w' => e = .returned (.bool r) ∧ Ext w w' := hr ▸ rHas_c c x y w h hE
theorem rContains_q {w1 w2 : World} {a1 : Option Addr} {l1 : List Int} {n1 : Nat} (c1 : Nat) {v1 : Bool} {a2 : Option Addr} {l2 : List Int} {n2 : Nat} (c2 : Nat) {v2 r : Bool} (w : World) (h1 : AA w1 a1 l1 n1 v1) (e1 : Ext w1 w) (h2 : AA w2 a2 l2 n2 v2) (e2 : Ext w2 w) (hr : Globe.containsB l1 l2 = r) :
  Calls Tryz.prog 83 #[.agg #[.slice a1 n1 c1], .agg #[.slice a2 n2 c2]] w fun e w' => e = .returned (.bool r) ∧ Ext w w' := hr ▸ rContains_c c1 c2 w h1 e1 h2 e2
theorem rCount_v {w0 : World} {b o : Nat} (c : Nat) {l : List Int} (w : World) (h : VA w0 b o l) (hE : Ext w0 w) : Calls Tryz.prog 82 #[.agg #[.slice (some ⟨b, o, none⟩) 24 c]] w fun e w' => e = .returned (.int .i64 (((Globe.cellsTo l 24).length : Nat) : Int)) ∧ Ext w w' :=
 (rCount_c c w h.aa hE).mono fun _ _ ⟨q, k⟩ => ⟨by rw [q]; unfold Globe.countL Globe.cellsL; rw [h.2]; rfl, k⟩
theorem rEmpty_v (w : World) : Calls Tryz.prog 38 #[] w fun e w' => ∃ B : Nat, e = .returned (.agg #[.slice (some ⟨B, 0, none⟩) 24 24]) ∧ w.heap.size ≤ B ∧ VA w' B 0 Globe.zeroL ∧ Ext w w' := (rEmpty_c w).mono fun _ _ ⟨B, h1, h2, h3, h4⟩ => ⟨B, h1, h2, h3.va (by decide), h4⟩
theorem PcsAt.getA {w : World} {b o n : Nat} {l : List Prod.Pc} (h : PcsAt w (some ⟨b, o, none⟩) n l) {i : Nat} (hi : i < n) :
  ∃ (p : Prod.Pc) (ar : Option Addr) (k c : Nat), l[i]? = some p ∧ w.cell? ⟨b, o + i * 4, none⟩ = some (.int .i64 p.im) ∧ w.cell? ⟨b, o + i * 4 + 1, none⟩ = some (.int .i64 p.t) ∧ w.cell? ⟨b, o + i * 4 + 2, none⟩ = some (.bool p.cl) ∧
   w.cell? ⟨b, o + i * 4 + 3, none⟩ = some (.slice ar k c) ∧ AA w ar p.rw k (Globe.validL p.rw) := by
 obtain ⟨b', o', p, ar, k, c, e, h1, h2, h3, h4, h5, h6⟩ := h.at hi
 cases e
 exact ⟨p, ar, k, c, h1, h2, h3, h4, h5, h6⟩
theorem one_pcs {S : Nat → Prop} {w : World} {O : Nat} {x : Prod.Pc} {ax : Option Addr} {kx cx : Nat} {v : Bool} (d0 : w.cell? ⟨O, 0, none⟩ = some (.int .i64 x.im)) (d1 : w.cell? ⟨O, 1, none⟩ = some (.int .i64 x.t)) (d2 : w.cell? ⟨O, 2, none⟩ = some (.bool x.cl)) (d3 : w.cell? ⟨O, 3, none⟩ = some (.slice ax kx cx)) (hx : AA w ax x.rw kx v) (hO : S O) (hA : ∀ ad, ax = some ad → S ad.block) : PcsS S w (some ⟨O, 0, none⟩) 1 [x] := by
  refine ⟨[⟨x.im, x.t, x.cl, ax, kx, cx⟩], ⟨rfl, by omega, .inr ⟨O, 0, rfl, fun i y hy => ?_⟩⟩, ⟨⟨rfl, rfl, rfl, hx.1, hx.2.1, hx.2.2.1, rfl⟩, trivial⟩, fun _ ad e => by cases e; exact hO, fun y hy _ ad e => ?_⟩
  · cases i with
    | zero => simp at hy; subst hy; exact ⟨d0, d1, d2, d3⟩
    | succ i => simp at hy
  · rw [List.mem_singleton.1 hy] at e; exact hA ad e
theorem PcsAt.dropS {w : World} {b o n : Nat} {l : List Prod.Pc} (h : PcsAt w (some ⟨b, o, none⟩) n l) {k : Nat} (hk : k < n) : PcsAt w (some ⟨b, o + k * 4, none⟩) (n - k) (l.drop k) := by
 have := h.drop (k := k) (c := n) (by omega) (Nat.le_refl n)
 rwa [if_neg (by omega), Option.map_some, Addr.add_mid] at this
theorem PcsS.drop {S : Nat → Prop} {w : World} {a : Option Addr} {n : Nat} {l : List Prod.Pc} (h : PcsS S w a n l) {k c : Nat} (hk : k ≤ n) (hc : n ≤ c) : PcsS S w (if c = k then a else a.map (fun x => x.add (k * 4))) (n - k) (l.drop k) := by
 obtain ⟨rs, h1, h2, h3, h4⟩ := h
 refine ⟨_, h1.drop hk hc, h2.drop k, fun q ad e => ?_, fun x hx q ad e => h4 x (List.mem_of_mem_drop hx) q ad e⟩
 rw [if_neg (by omega)] at e
 obtain ⟨ad', ha, rfl⟩ := Option.map_eq_some_iff.1 e
 have := h3 (by omega) ad' ha
 rcases h1.2.2 with q | ⟨b, o, e, _⟩
 · omega
 · rw [e] at ha; cases ha; rw [Addr.add_mid]; exact this
theorem app_list {S : Nat → Prop} {w : World} {a b : Option Addr} {n m c : Nat} {l t : List Prod.Pc} (h : PcsS S w a n l) (hp : Pl a) (k : PcsS S w b m t) (hS : ∀ k, w.heap.size ≤ k → S k) (hn : n + m ≤ 1000) :
    ∃ g cap w', (Builtin.append_ #[30, 30] 30 #[.slice a n n, .slice b m c]).run Tryz.prog w = .ok (.slice g (n + m) cap) w' ∧ PcsS S w' g (n + m) (l ++ t) ∧ n + m ≤ cap ∧ Pl g ∧ Ext w w' := by
  rcases Nat.eq_zero_or_pos m with h0 | h0
  · subst h0
    have ht : t = [] := List.eq_nil_of_length_eq_zero k.pcs.len
    subst ht
    exact ⟨a, n, w, app_none pieceT (Nat.le_refl n), by rw [List.append_nil]; exact h, by omega, hp, Ext.refl _⟩
  obtain ⟨rs, ⟨r1, r2, r3⟩, hrd, hb1, hb2⟩ := h
  obtain ⟨ys, ⟨s1, s2, s3⟩, hrd2, hc1, hc2⟩ := k
  obtain ⟨i0, hi, hz0, hz1, hz2⟩ := info_parts (pieceT).info
  have hc : ∀ rs : List RawPc, ∀ c ∈ rs.map RawPc.enc, c.length = 4 := fun rs c hc => by obtain ⟨x, _, rfl⟩ := List.mem_map.1 hc; rfl
  rcases s3 with s3 | ⟨b', o', rfl, hy⟩
  · omega
  have hone : ∀ u ∈ (ys.map RawPc.enc).flatten, u.oneCell' = true := fun u hu => by
    obtain ⟨d, hd, hu⟩ := List.mem_flatten.1 hu
    obtain ⟨x, _, rfl⟩ := List.mem_map.1 hd
    exact enc_one x u hu
  have hrun : ∃ v' w', (Builtin.append_ #[30, 30] 30 #[.slice a n n, .slice (some ⟨b', o', none⟩) m c]).run Tryz.prog w = .ok v' w' ∧ w'.ownsRow w.heap.size 49 4 v' (n + m) ((rs.map RawPc.enc).flatten ++ (ys.map RawPc.enc).flatten) ∧ w.grownBy w' none := by
    rcases hp with rfl | ⟨b, o, rfl⟩
    · have h0 : n = 0 := by
        rcases r3 with r3 | ⟨b, o, e, _⟩
        · exact r3
        · cases e
      subst h0
      obtain rfl : rs = [] := List.eq_nil_of_length_eq_zero r1
      obtain ⟨v', w', q1, q2, q3, _⟩ := run_append_own (P := Tryz.prog) w w.heap.size 30 30 49 i0 _ 4 48 (pieceT).under hi hz0 hz1 hz2 (pieceT).zs (pieceT).pos (.slice none 0 0) 0 [] (World.ownsRow_nil w _ _ _) ⟨b', o', none⟩ m c (ys.map RawPc.enc).flatten (by rw [flatten_len (hc ys), List.length_map, s1]) (raws_flat hy) hone (by unfold maxLen; omega) (by omega) (Nat.le_refl _)
      exact ⟨v', w', q1, q2, q3⟩
    · have hb : ∀ (i : Nat) x, rs[i]? = some x → RawAt w b (o + i * 4) x := by
        rcases r3 with r3 | ⟨b', o', e, hx⟩
        · subst r3; obtain rfl : rs = [] := List.eq_nil_of_length_eq_zero r1
          intro i x hx; simp at hx
        · cases e; exact hx
      exact run_append_arg_grows (P := Tryz.prog) w 30 30 49 i0 _ 4 48 (pieceT).under hi hz0 hz1 hz2 (pieceT).zs (pieceT).pos ⟨b, o, none⟩ n n _ (by rw [flatten_len (hc rs), List.length_map, r1]) (raws_flat hb) ⟨b', o', none⟩ m c (ys.map RawPc.enc).flatten (by rw [flatten_len (hc ys), List.length_map, s1]) (raws_flat hy) (by omega) (by unfold maxLen; omega) (by omega)
  obtain ⟨v', w', hr, hown, hg⟩ := hrun
  have hE : Ext w w' := ⟨hg.os, hg.tape, hg.output, hg.size, fun k hk => hg.block k hk (by simp)⟩
  have hfl : (rs.map RawPc.enc).flatten ++ (ys.map RawPc.enc).flatten = ((rs ++ ys).map RawPc.enc).flatten := by simp
  rw [hfl] at hown
  have hlt := hown.lt
  rcases hown.2 with ⟨_, q⟩ | ⟨g, cap, cur, rfl, _, _, hcap, _⟩
  · omega
  · refine ⟨some ⟨g, 0, none⟩, cap, w', hr, ⟨rs ++ ys, ⟨by simp [r1, s1], by omega, .inr ⟨g, 0, rfl, fun i z hz => ?_⟩⟩, (hrd.ext hE).app (hrd2.ext hE), fun _ ad e => ?_, fun x hx q ad e => ?_⟩, hcap, .inr ⟨g, 0, rfl⟩, hE⟩
    · have hil : i < n + m := by have := (List.getElem?_eq_some_iff.1 hz).1; simp [r1, s1] at this; exact this
      have k : ∀ q, q < 4 → w'.cell? ⟨g, 0 + i * 4 + q, none⟩ = z.enc[q]? := fun q hq => by
        have f := flatten_get (hc (rs ++ ys)) i (c := z.enc) (by rw [List.getElem?_map, hz]; rfl) q hq
        rw [show 0 + i * 4 + q = i * 4 + q by omega, hown.cellAt _ (by omega), f]
      exact ⟨k 0 (by omega), k 1 (by omega), k 2 (by omega), k 3 (by omega)⟩
    · cases e
      exact hS _ (hlt g rfl).1
    · rcases List.mem_append.1 hx with hx | hx
      · exact hb2 x hx q ad e
      · exact hc2 x hx q ad e
theorem PcsAt.S {w : World} {a : Option Addr} {n : Nat} {l : List Prod.Pc} (h : PcsAt w a n l) : PcsS (fun _ => True) w a n l := h.now.mono fun _ _ => trivial
namespace Prod
def hdR (ar : List Int) (pre : List Pc) (x : Pc) : Bool := okP x && (!noC x.rw && (Globe.containsB ar x.rw && (match pre.getLast? with | none => true | some p => better x p)))
theorem stepR_hd (ar : List Int) (pre : List Pc) (x : Pc) : stepR ar pre x = (hdR ar pre x && apart pre x) := rfl
theorem hd_step {ar : List Int} {pre : List Pc} {x p0 : Pc} (h4 : pre.getLast? = some p0) : hdR ar pre x = (okP x && (!noC x.rw && (Globe.containsB ar x.rw && better x p0))) := by unfold hdR; rw [h4]
theorem validP_r {id ver : Int} {ar : List Int} {ps : List Pc} (ha : Globe.validL ar = true) : validP id ver ar ps = (headOk id ver ar ps.length && rGo ar [] ps) := by unfold validP; rw [rGo_all ha]
theorem noC_pos {l : List Int} : noC l = false ↔ (0 : Int) < (((Globe.cellsTo l 24).length : Nat) : Int) := by unfold noC; rw [decide_eq_false_iff_not]; omega
theorem ok_take {ps : List Pc} {i : Nat} {p : Pc} (h : ∀ q ∈ ps.take i, okP q = true) (hp : ps[i]? = some p) (ho : okP p = true) : ∀ q ∈ ps.take (i + 1), okP q = true := fun q hq => by
  rw [List.take_add_one, hp] at hq
  rcases List.mem_append.1 hq with hq | hq
  · exact h q hq
  · have e : q = p := by simpa using hq
    rw [e]; exact ho
theorem ok_at {ps : List Pc} {i k : Nat} {q : Pc} (h : ∀ q ∈ ps.take i, okP q = true) (hk : k < i) (hq : ps[k]? = some q) : okP q = true := h q (List.mem_of_getElem? (i := k) (by rw [List.getElem?_take, if_pos hk]; exact hq))
end Prod
end Go.Proofs.YtajdohcgjgknmaaGreatDoor

namespace Go.Proofs.YtajdohcgjgknmaaGreatDoor
set_option maxRecDepth 1000000
set_option maxHeartbeats 4000000
set_option synthInstance.maxHeartbeats 0
set_option synthInstance.maxSize 9999
open Go.RowKit
def Tz51_0 : List Row := [(some 12, [5], []), (some 13, [3], []), (some 14, [13], [1]), (some 15, [12, 14], [0, 2]), (some 16, [15], [3]), (some 17, [0, 16], [4]), (some 18, [4, 16], [4]), (some 19, [17, 18, 16], [5, 6, 4]), (some 20, [19, 16], [7, 4]), (some 21, [3, 16], [4]), (some 22, [5, 16], [4]), (some 23, [21, 22, 16], [9, 10, 4]), (some 24, [23, 16], [11, 4]), (some 25, [20, 24, 16], [8, 12, 4, 4]), (some 26, [16, 25], [4, 13])]
def Tz51_1 : List Row := [(some 29, [3], []), (some 30, [5], []), (some 31, [5], []), (some 32, [29, 30, 31], [0, 1, 2]), (some 33, [0], []), (some 34, [4], []), (some 35, [33, 34], [4, 5]), (some 36, [35], [6]), (some 37, [36], [7]), (some 38, [3], []), (some 39, [5], []), (some 40, [38, 39], [9, 10]), (some 41, [37, 40], [8, 11]), (some 42, [32, 41], [3, 12, 12]), (some 3, [42], [13, 13, 0, 1, 2, 3, 4, 5, 6, 7, 8, 9, 10, 11, 12, 13])]
theorem rin_c (n lo hi : Int) (w : World) : Calls Tryz.prog 81 #[iv n, iv lo, iv hi] w fun e w' => e = .returned (.bool (Globe.inB n lo hi)) ∧ Ext w w' := by
 refine calls_cw 15 [(2, iv hi), (1, iv lo), (0, iv n)] Tryz.func81 rfl Tryz.ntmps81 (by kernel_rfl) (by kernel_rfl) (fun L => ?_);have hE := Ext.refl w;refine zc (zp (pT (.bool false) ?_));refine zn (zc (zp (pD (iv n) (iv lo) ?_)))
 by_cases hc1 : (n : Int) ≥ (lo : Int)
 ·
  refine pU (.bool true) (ed ((n : Int) ≥ (lo : Int)) (hc1)) ?_;refine pD (.bool true) (iv n) ?_;refine pT (iv hi) ?_
  by_cases hc2 : (n : Int) ≤ (hi : Int)
  ·
   refine pU (.bool true) (ed ((n : Int) ≤ (hi : Int)) (hc2)) ?_;refine pD (.bool true) (.bool true) ?_;refine zn (cw_ret (qw_ret [.bool true] rfl ⟨(by kernel_rfl), trivial⟩ ?_));exact ⟨rb (by first | exact (decide_eq_true (by omega)).symm | exact (decide_eq_false (by omega)).symm), hE⟩
  ·
   refine pU (.bool false) (en ((n : Int) ≤ (hi : Int)) (hc2)) ?_;refine pD (.bool false) (.bool false) ?_;refine zn (cw_ret (qw_ret [.bool false] rfl ⟨(by kernel_rfl), trivial⟩ ?_));exact ⟨rb (by first | exact (decide_eq_true (by omega)).symm | exact (decide_eq_false (by omega)).symm), hE⟩
 ·
  refine pU (.bool false) (en ((n : Int) ≥ (lo : Int)) (hc1)) ?_;refine pT (.bool false) ?_;refine pK ?_;refine pK ?_;refine pK ?_;refine pD (.bool false) (.bool false) ?_;refine zn (cw_ret (qw_ret [.bool false] rfl ⟨(by kernel_rfl), trivial⟩ ?_));exact ⟨rb (by first | exact (decide_eq_true (by omega)).symm | exact (decide_eq_false (by omega)).symm), hE⟩
theorem rin_r (n lo hi : Int) {r : Bool} (w : World) (hr : Globe.inB n lo hi = r) : Calls Tryz.prog 81 #[.int .i64 n, .int .i64 lo, .int .i64 hi] w fun e w' => e = .returned (.bool r) ∧ Ext w w' := hr ▸ rin_c n lo hi w
theorem rPiece_c {w0 : World} {x : Prod.Pc} {a : Option Addr} {k c : Nat} (w : World) (hA : AA w0 a x.rw k (Globe.validL x.rw)) (e0 : Ext w0 w) : Calls Tryz.prog 75 #[.agg #[iv x.im, iv x.t, .bool x.cl, .slice a k c]] w fun e w' => e = .returned (.bool (Prod.okP x)) ∧ Ext w w' := by
 refine calls_cw 16 [(0, .agg #[iv x.im, iv x.t, .bool x.cl, .slice a k c])] Tryz.func75 rfl Tryz.ntmps75 (by kernel_rfl) (by kernel_rfl) (fun L => ?_);have hE := Ext.refl w;refine zc (zp (pS (sw 49 #[iv x.im, iv x.t, .bool x.cl, .slice a k c] ?_)));intro O1 X2 Bb Bi hb hbx;have ⟨B0, B3, B4, B2⟩ := bq4 hbx;refine mv2 hb e0 hE fun e0 hE=>?_;have Bp := hb.size;have Bm := B0.lt;refine pT (.bool false) ?_;refine zn (zc (zp (pT (pw O1 0) ?_)));refine pU (iv x.im) (xl (ld3 (B0.1))) ?_;rcases Bool.eq_false_or_eq_true (Globe.inB x.im 0 999) with B7 | B7
 ·
  refine pS (sc 81 #[iv x.im, iv 0, iv 999] ((rin_r (r := true) x.im 0 999 _ (B7)).mono ?_));rintro e w6 ⟨rfl, hb⟩;refine mv4 hb e0 hE B3 B2 fun e0 hE B3 B2=>?_;have Bl := hb.size;refine ⟨_, rfl, pD (.bool true) (pw O1 1) ?_⟩;refine pU (iv x.t) (xl (ld3 (B3.1))) ?_;rcases Bool.eq_false_or_eq_true (Globe.inB x.t 0 1000000) with Ba | Ba
  ·
   refine pS (sc 81 #[iv x.t, iv 0, iv 1000000] ((rin_r (r := true) x.t 0 1000000 _ (Ba)).mono ?_));rintro e w9 ⟨rfl, hb⟩;refine mv3 hb e0 hE B2 fun e0 hE B2=>?_;have Bg := hb.size;refine ⟨_, rfl, pD (.bool true) (.bool true) ?_⟩;refine pT (pw O1 3) ?_;refine pU (.agg #[.slice a k c]) (xl (ld33 (B2.1))) ?_;rcases Bool.eq_false_or_eq_true (Globe.validL x.rw) with B6 | B6
   ·
    refine pS (sc 74 #[.agg #[.slice a k c]] ((rValid_q (r := true) _ _ (hA) e0 B6).mono ?_));rintro e Bj ⟨rfl, hb⟩;refine mv2 hb e0 hE fun e0 hE=>?_;have Bc := hb.size;refine ⟨_, rfl, pD (.bool true) (.bool true) ?_⟩;refine zn (cK [2] (fun L => ?_));refine cw_ret (qw_ret [.bool true] rfl ⟨(by kernel_rfl), trivial⟩ ?_);exact ⟨rb (show Prod.okP x = true by simp [Prod.okP, B7, Ba, B6]).symm, hE⟩
   ·
    refine pS (sc 74 #[.agg #[.slice a k c]] ((rValid_q (r := false) _ _ (hA) e0 B6).mono ?_));rintro e Bo ⟨rfl, hb⟩;replace hE := hE.trans hb;have Be := hb.size;refine ⟨_, rfl, pD (.bool false) (.bool false) ?_⟩;refine zn (cK [2] (fun L => ?_));refine cw_ret (qw_ret [.bool false] rfl ⟨(by kernel_rfl), trivial⟩ ?_);exact ⟨rb (show Prod.okP x = false by simp [Prod.okP, B7, Ba, B6]).symm, hE⟩
  ·
   refine pS (sc 81 #[iv x.t, iv 0, iv 1000000] ((rin_r (r := false) x.t 0 1000000 _ (Ba)).mono ?_));rintro e Bk ⟨rfl, hb⟩;replace hE := hE.trans hb;have Bf := hb.size;refine ⟨_, rfl, pD (.bool false) (.bool false) ?_⟩;refine pK ?_;refine pK ?_;refine pK ?_;refine pD (.bool false) (.bool false) ?_;refine zn (cK [2] (fun L => ?_));refine cw_ret (qw_ret [.bool false] rfl ⟨(by kernel_rfl), trivial⟩ ?_);exact ⟨rb (show Prod.okP x = false by simp [Prod.okP, B7, Ba]).symm, hE⟩
 ·
  refine pS (sc 81 #[iv x.im, iv 0, iv 999] ((rin_r (r := false) x.im 0 999 _ (B7)).mono ?_));rintro e Bq ⟨rfl, hb⟩;replace hE := hE.trans hb;have Bh := hb.size;refine ⟨_, rfl, pT (.bool false) ?_⟩;refine pK ?_;refine pK ?_;refine pK ?_;refine pD (.bool false) (.bool false) ?_;refine pK ?_;refine pK ?_;refine pK ?_;refine pD (.bool false) (.bool false) ?_;refine zn (cK [2] (fun L => ?_));refine cw_ret (qw_ret [.bool false] rfl ⟨(by kernel_rfl), trivial⟩ ?_);exact ⟨rb (show Prod.okP x = false by simp [Prod.okP, B7]).symm, hE⟩
theorem rPiece_r {w0 : World} {x : Prod.Pc} {a : Option Addr} {k c : Nat} {r v : Bool} (w : World) (hA : AA w0 a x.rw k v) (e0 : Ext w0 w) (hr : Prod.okP x = r) : Calls Tryz.prog 75 #[.agg #[.int .i64 x.im, .int .i64 x.t, .bool x.cl, .slice a k c]] w fun e w' => e = .returned (.bool r) ∧ Ext w w' := by
 obtain rfl := hA.2.2.2; exact hr ▸ rPiece_c w hA e0
theorem rless_v {w1 w2 : World} {b1 o1 b2 o2 : Nat} (c1 c2 : Nat) {l1 l2 : List Int} (w : World) (h1 : VA w1 b1 o1 l1) (e1 : Ext w1 w) (h2 : VA w2 b2 o2 l2) (e2 : Ext w2 w) : Calls Tryz.prog 76 #[.agg #[sv b1 o1 24 c1], .agg #[sv b2 o2 24 c2]] w fun e w' => ∃ B k : Nat, e = .returned (.agg #[sv B 0 24 k]) ∧ w.heap.size ≤ B ∧ VA w' B 0 (Globe.lessL l1 l2) ∧ Ext w w' := by
 replace h1 := h1.ext e1;replace h2 := h2.ext e2;clear e1 e2;have C4 := h1.lt;have C5 := h2.lt;refine calls_cw 17 [(1, .agg #[sv b2 o2 24 c2]), (0, .agg #[sv b1 o1 24 c1])] Tryz.func76 rfl Tryz.ntmps76 (by kernel_rfl) (by kernel_rfl) (fun L => ?_);have hE := Ext.refl w;refine zc (zp (pS (sw 33 #[sv b1 o1 24 c1] ?_)));intro O1 X2 Bu Bz hb hbx;have B0 := bq1 hbx;replace hE := hE.trans hb;have Bk := hb.size;have Bo := B0.lt;refine pS (sw 33 #[sv b2 o2 24 c2] ?_);intro O5 X6 Bx Bw hb hbx;have B4 := bq1 hbx;refine mv2 hb hE B0 fun hE B0=>?_;have Bj := hb.size;have Bq := B4.lt;refine pS (sw 33 #[.slice none 0 0] ?_);intro O9 C6 Bg C2 hb hbx;have B2 := bq1 hbx;refine mv3 hb hE B0 B4 fun hE B0 B4=>?_;have Bb := hb.size;have Bf := B2.lt;refine zn (zc (zp (pU (.agg #[sv b1 o1 24 c1]) (xl (ld33 (B0.1))) ?_)));refine pU (.agg #[sv b2 o2 24 c2]) (xl (ld33 (B4.1))) ?_;refine pS (sc 112 #[.agg #[sv b1 o1 24 c1], .agg #[sv b2 o2 24 c2]] ((rLess_v _ _ _ h1 hE h2 hE).mono ?_));rintro e C7 ⟨Be, Bc, rfl, Bi, -, B7, hb⟩;refine mv2 hb hE B2 fun hE B2=>?_;have Ba := hb.size;have Bl := B7.lt;refine ⟨_, rfl, pD (.tuple #[.agg #[sv Be 0 24 Bc], iv 0]) (.agg #[sv Be 0 24 Bc]) ?_⟩;refine pT (iv 0) ?_;refine pS (sw 33 #[.slice none 0 0] ?_);intro Bm Bv B6 Bp hb hbx;have B3 := bq1 hbx;refine mv3 hb hE B2 B7 fun hE B2 B7=>?_;have C1 := hb.size;have C3 := B3.lt;refine pP (zF Bm 0 (sv Be 0 24 Bc) (st33 B3.1 B3.2) B3 ?_);intro Br ho B3 hk;replace hE := ho.ext hE (by omega);replace B2 := ho.box (by omega) B2;replace B7 := ho.va (by omega) B7;have Bt := Nat.le_of_eq ho.size.symm;clear ho hk;refine pT (iv 0) ?_;refine zn (zc (zc (zp (pD (iv 0) (.bool false) ?_))));refine zn (cK [4,5,14] (fun L => ?_));refine zf ?_;refine cw_skip (zq (zc (zp (pU (.agg #[sv Be 0 24 Bc]) (xl (ld33 (B3.1))) ?_))));refine pP (zF O9 0 (sv Be 0 24 Bc) (st33 B2.1 B2.2) B2 ?_);intro Bs ho B2 hk;replace hE := ho.ext hE (T (T Bk Bj) (Nat.le_of_eq Bg));replace B7 := ho.va (by omega) B7;have C0 := Nat.le_of_eq ho.size.symm;clear ho hk;refine zn (cw_ret (qw_ret [.agg #[sv Be 0 24 Bc]] rfl ⟨⟨_, by kernel_rfl, res_ld (ld33 (B2.1))⟩, trivial⟩ ?_));exact ⟨_, _, rfl, (T (T Bk (T Bj Bb)) Bi), B7, hE⟩
theorem rsorted_c {w0 : World} {a : Option Addr} {n : Nat} {l : List Prod.Pc} (c : Nat) (w : World) (h : PcsAt w0 a n l) (e0 : Ext w0 w) (hn : n ≤ 100) : Calls Tryz.prog 78 #[.slice a n c] w fun e w' => ∃ (a' : Option Addr) (c' : Nat), e = .returned (.slice a' n c') ∧ PcsAt w' a' n (Prod.sortA l) ∧ n ≤ c' ∧ Pl a' ∧ Ext w w' := by
 replace h := h.ext e0;have hnb := h.max;have hln := h.len;clear e0;refine calls_cw 44 [(0, .slice a n c)] Tryz.func78 rfl Tryz.ntmps78 (by kernel_rfl) (by kernel_rfl) (fun L => ?_);have hE := Ext.refl w;refine zc (zp (pT (.slice none 0 0) ?_));refine zn (zc (zp (pT (.slice none 0 0) ?_)));refine zn (zc (zc (zp (pT (iv 0) ?_))));refine zn (cw_block ?_);refine cw_loop [0, 3, 4] (fun ws' wr m => ∃ i : Nat, ∃ ao : Option Addr, ∃ co : Nat, ws' = [(0, .slice a n c), (3, .slice ao i co), (4, iv i)] ∧ m = n - i ∧ w.heap.size ≤ wr.heap.size ∧ Ext w wr ∧ PcsAt wr ao i (Prod.sortA (l.take i)) ∧ i ≤ n ∧ i ≤ co ∧ Pl ao) (ws0 := [(0, .slice a n c), (3, .slice none 0 0), (4, iv 0)]) (by kernel_rfl) _ ⟨0, none, 0, rfl, rfl, Nat.le_refl _, hE, PcsAt.nil _ _, by omega, by omega, .inl rfl⟩ ?_;clear hE;rintro m3 L ws w2 ⟨i, ao, co, rfl, rfl, Dj, hE, hO, hi, hco, hplo⟩;have B0 := Ext.refl w2
 by_cases hlt : i < n
 ·
  obtain ⟨b5, o6, x, Bx, k8, c9, rfl, D5, Bm, Bl, Bo, Bi, Cg⟩ := h.at hlt;have hsa := Prod.sortA_snoc (l.take i) x;have htk : l.take (i + 1) = l.take i ++ [x] := by rw [List.take_add_one, D5];rfl
  refine zc (zc (zp (pD (iv i) (sv b5 o6 n c) ?_)));refine pT (iv n) ?_;refine pU (.bool true) (ed (((i : Nat) : Int) < ((n : Nat) : Int)) (by omega)) ?_;refine zn (zt ?_);refine cw_skip (zq (zc (cw_block ?_)));refine zc (zp (pT (iv 0) ?_));refine zn (zc (cw_block ?_));refine cw_loop [0, 3, 4, 5] (fun ws' wr m => ∃ k : Nat, ws' = [(0, sv b5 o6 n c), (3, .slice ao i co), (4, iv i), (5, iv k)] ∧ m = i - k ∧ w2.heap.size ≤ wr.heap.size ∧ Ext w wr ∧ Ext w2 wr ∧ k ≤ i ∧ ∀ j z, j < k → (Prod.sortA (l.take i))[j]? = some z → Prod.better x z = true) (ws0 := [(0, sv b5 o6 n c), (3, .slice ao i co), (4, iv i), (5, iv 0)]) (by kernel_rfl) _ ⟨0, rfl, rfl, Nat.le_refl _, hE, B0, by omega, fun j z hj _ => absurd hj (Nat.not_lt_zero _)⟩ ?_;clear hE B0;rintro Dw L ws C8 ⟨k, rfl, rfl, C2, hE, B0, hk, hbt⟩
  by_cases Cr : k < i
  ·
   obtain ⟨Bf, B6, y, Bt, C7, C9, rfl, Cc, Bu, Bv, Bs, Br, Dp⟩ := hO.at Cr;refine zc (cw_seq ?_);rcases Bool.eq_false_or_eq_true (Prod.better x y) with hbb | hbb
   ·
    have Bz := Ext.refl C8;refine dE Tz51_0 (fun w' => w'.cell? ⟨b5, o6 + i * 4, none⟩ = some (iv x.im) ∧ w'.cell? ⟨b5, o6 + i * 4 + 1, none⟩ = some (iv x.t) ∧ w'.cell? ⟨b5, o6 + i * 4 + 2, none⟩ = some (.bool x.cl) ∧ w'.cell? ⟨b5, o6 + i * 4 + 3, none⟩ = some (.slice Bx k8 c9) ∧ w'.cell? ⟨Bf, B6 + k * 4, none⟩ = some (iv y.im) ∧ w'.cell? ⟨Bf, B6 + k * 4 + 1, none⟩ = some (iv y.t) ∧ w'.cell? ⟨Bf, B6 + k * 4 + 2, none⟩ = some (.bool y.cl) ∧ w'.cell? ⟨Bf, B6 + k * 4 + 3, none⟩ = some (.slice Bt C7 C9)) (⟨(hE.cell Bm), (hE.cell Bl), (hE.cell Bo), (hE.cell Bi), (B0.cell Bu), (B0.cell Bv), (B0.cell Bs), (B0.cell Br)⟩) (fun ops Q E3 hb hL hR hK => ?_);refine mv2 hb hE B0 fun hE B0=>?_;have D3 := hb.size;have hS := A8 (hE.cell Bm) (hE.cell Bl) (hE.cell Bo) (hE.cell Bi) (B0.cell Bu) (B0.cell Bv) (B0.cell Bs) (B0.cell Br);refine wW 0 (iv k) 1 (sv Bf B6 i co) hR hS ?_;refine wV 2 (iv i) hR hS ?_;refine wL 3 (.bool true) hR (fun w _ => ev_dec (show _ = Result.ok (Next.value (Value.bool (decide (((k : Nat) : Int) < ((i : Nat) : Int))))) _ from by kernel_rfl) (by omega)) hS ?_;refine wW 4 (.bool true) 5 (sv b5 o6 n c) hR hS ?_;refine wV 6 (iv i) hR hS ?_;refine wL 7 (pw b5 (o6 + i * 4)) hR (fun w _ => ex_index (p := sv b5 o6 n c) (i := iv i) rfl (by kernel_rfl) (by kernel_rfl) (ix30 (k := i) (by omega))) hS ?_;refine wM 8 (.agg #[iv x.im, iv x.t, .bool x.cl, .slice Bx k8 c9]) hR (fun w hS => ld49 (hS.1) (hS.2.1) (hS.2.2.1) (hS.2.2.2.1)) hS ?_;refine wW 9 (sv Bf B6 i co) 10 (iv k) hR hS ?_;refine wL 11 (pw Bf (B6 + k * 4)) hR (fun w _ => ex_index (p := sv Bf B6 i co) (i := iv k) rfl (by kernel_rfl) (by kernel_rfl) (ix30 (k := k) (by omega))) hS ?_;refine wM 12 (.agg #[iv y.im, iv y.t, .bool y.cl, .slice Bt C7 C9]) hR (fun w hS => ld49 (hS.2.2.2.2.1) (hS.2.2.2.2.2.1) (hS.2.2.2.2.2.2.1) (hS.2.2.2.2.2.2.2)) hS ?_;refine wC 13 84 #[.agg #[iv x.im, iv x.t, .bool x.cl, .slice Bx k8 c9], .agg #[iv y.im, iv y.t, .bool y.cl, .slice Bt C7 C9]] hR ((rBetter_r (x := x) (y := y) (r := true) _ hbb).mono ?_);rintro e Dx ⟨rfl, hb⟩;refine mv2 hb hE B0 fun hE B0=>?_;have Cx := hb.size;have hS := A8 (hE.cell Bm) (hE.cell Bl) (hE.cell Bo) (hE.cell Bi) (B0.cell Bu) (B0.cell Bv) (B0.cell Bs) (B0.cell Br);refine ⟨_, rfl, hS, ?_⟩;refine wV 14 (.bool true) hR hS ?_;refine we hL hR hK ?_;refine zq (cK [0,3,4,5,26] (fun L => ?_));refine zt ?_;refine cw_skip (zq (cw_block ?_));refine zp (pT (iv k) ?_);refine pU (iv ((k + 1 : Nat) : Int)) (ew (by omega) (by omega)) ?_;refine pT (iv ((k + 1 : Nat) : Int)) ?_;refine pl_nil (qw_block (zr [0, 3, 4, 5] _ ?_ ⟨(k + 1), rfl, rfl, (T C2 (T D3 Cx)), hE, B0, by omega, (fun j z hj hz => (Nat.lt_or_ge j k).elim (fun q => hbt j z q hz) (fun q => by obtain rfl : j = k := (by omega); rw [Cc] at hz; cases hz; exact hbb))⟩));omega
   ·
    have hend : ∀ z, (Prod.sortA (l.take i))[k]? = some z → Prod.better x z = false := fun z hz => by rw [Cc] at hz;cases hz;exact hbb
    have B4 := Ext.refl C8;refine dE Tz51_0 (fun w' => w'.cell? ⟨b5, o6 + i * 4, none⟩ = some (iv x.im) ∧ w'.cell? ⟨b5, o6 + i * 4 + 1, none⟩ = some (iv x.t) ∧ w'.cell? ⟨b5, o6 + i * 4 + 2, none⟩ = some (.bool x.cl) ∧ w'.cell? ⟨b5, o6 + i * 4 + 3, none⟩ = some (.slice Bx k8 c9) ∧ w'.cell? ⟨Bf, B6 + k * 4, none⟩ = some (iv y.im) ∧ w'.cell? ⟨Bf, B6 + k * 4 + 1, none⟩ = some (iv y.t) ∧ w'.cell? ⟨Bf, B6 + k * 4 + 2, none⟩ = some (.bool y.cl) ∧ w'.cell? ⟨Bf, B6 + k * 4 + 3, none⟩ = some (.slice Bt C7 C9)) (⟨(hE.cell Bm), (hE.cell Bl), (hE.cell Bo), (hE.cell Bi), (B0.cell Bu), (B0.cell Bv), (B0.cell Bs), (B0.cell Br)⟩) (fun ops Q E2 hb hL hR hK => ?_);refine mv2 hb hE B0 fun hE B0=>?_;have Cv := hb.size;have hS := A8 (hE.cell Bm) (hE.cell Bl) (hE.cell Bo) (hE.cell Bi) (B0.cell Bu) (B0.cell Bv) (B0.cell Bs) (B0.cell Br);refine wW 0 (iv k) 1 (sv Bf B6 i co) hR hS ?_;refine wV 2 (iv i) hR hS ?_;refine wL 3 (.bool true) hR (fun w _ => ev_dec (show _ = Result.ok (Next.value (Value.bool (decide (((k : Nat) : Int) < ((i : Nat) : Int))))) _ from by kernel_rfl) (by omega)) hS ?_;refine wW 4 (.bool true) 5 (sv b5 o6 n c) hR hS ?_;refine wV 6 (iv i) hR hS ?_;refine wL 7 (pw b5 (o6 + i * 4)) hR (fun w _ => ex_index (p := sv b5 o6 n c) (i := iv i) rfl (by kernel_rfl) (by kernel_rfl) (ix30 (k := i) (by omega))) hS ?_;refine wM 8 (.agg #[iv x.im, iv x.t, .bool x.cl, .slice Bx k8 c9]) hR (fun w hS => ld49 (hS.1) (hS.2.1) (hS.2.2.1) (hS.2.2.2.1)) hS ?_;refine wW 9 (sv Bf B6 i co) 10 (iv k) hR hS ?_;refine wL 11 (pw Bf (B6 + k * 4)) hR (fun w _ => ex_index (p := sv Bf B6 i co) (i := iv k) rfl (by kernel_rfl) (by kernel_rfl) (ix30 (k := k) (by omega))) hS ?_;refine wM 12 (.agg #[iv y.im, iv y.t, .bool y.cl, .slice Bt C7 C9]) hR (fun w hS => ld49 (hS.2.2.2.2.1) (hS.2.2.2.2.2.1) (hS.2.2.2.2.2.2.1) (hS.2.2.2.2.2.2.2)) hS ?_;refine wC 13 84 #[.agg #[iv x.im, iv x.t, .bool x.cl, .slice Bx k8 c9], .agg #[iv y.im, iv y.t, .bool y.cl, .slice Bt C7 C9]] hR ((rBetter_r (x := x) (y := y) (r := false) _ hbb).mono ?_);rintro e De ⟨rfl, hb⟩;refine mv2 hb hE B0 fun hE B0=>?_;have D6 := hb.size;have hS := A8 (hE.cell Bm) (hE.cell Bl) (hE.cell Bo) (hE.cell Bi) (B0.cell Bu) (B0.cell Bv) (B0.cell Bs) (B0.cell Br);refine ⟨_, rfl, hS, ?_⟩;refine wV 14 (.bool false) hR hS ?_;refine we hL hR hK ?_;refine zq (cK [0,3,4,5,26] (fun L => ?_));refine zf ?_;refine cw_exit (qw_then_exit (qw_then_exit (qw_block_out (qw_then ?_))));have hat := Prod.insA_at (x := x) (l := Prod.sortA (l.take i)) (k := k) (fun j z hj hz => hbt j z hj hz) (by rw [hO.len]; omega) hend;have hOt := PcsAt.take hO (k := k) (by omega);have hOd := PcsAt.dropS hO (k := k) (by omega);have Bj := Ext.refl De;refine dE Tz51_1 (fun w' => Ext w w') (Ext.drew hE) (fun ops Q E0 hb hL hR hK => ?_);refine mv2 hb hE B0 fun hE B0=>?_;have Cp := hb.size;refine wW 0 (sv Bf B6 i co) 1 (iv k) hR hE ?_;refine wV 2 (iv k) hR hE ?_;refine wL 3 (sv Bf B6 k k) hR (fun w _ => ex_slice (p := sv Bf B6 i co) rfl (by kernel_rfl) (by kernel_rfl) (by kernel_rfl) (by kernel_rfl) (sl30_011 (m := k) (r := k) (by omega) (by omega) (by omega))) hE ?_;refine wW 4 (sv b5 o6 n c) 5 (iv i) hR hE ?_;refine wL 6 (pw b5 (o6 + i * 4)) hR (fun w _ => ex_index (p := sv b5 o6 n c) (i := iv i) rfl (by kernel_rfl) (by kernel_rfl) (ix30 (k := i) (by omega))) hE ?_;refine wM 7 (.agg #[iv x.im, iv x.t, .bool x.cl, .slice Bx k8 c9]) hR (fun w hS => ld49 (hS.cell Bm) (hS.cell Bl) (hS.cell Bo) (hS.cell Bi)) hE ?_;refine wW 9 (sv Bf B6 i co) 10 (iv k) hR hE ?_;refine wL 11 (sv Bf (B6 + k * 4) (i - k) (co - k)) hR (fun w _ => ex_slice (p := sv Bf B6 i co) rfl (by kernel_rfl) (by kernel_rfl) (by kernel_rfl) (by kernel_rfl) (sl30_100 (k := k) (by omega) (by omega) (by omega))) hE ?_;refine wS 8 hR (sn_newS (us := #[iv x.im, iv x.t, .bool x.cl, .slice Bx k8 c9]) (t := 49) (k := 1) (c := 1) (by kernel_rfl) ?_);intro Dv Dz Dg Db hb hbx;have ⟨B3, B7, Be, Bg⟩ := bq4 hbx;refine mv2 hb hE B0 fun hE B0=>?_;have Cu := hb.size;have Do := B3.lt;refine ⟨hE, ?_⟩;obtain ⟨Dt, C1, Co, C5, Ct, Dc, Dd, hb⟩ := app_list (S := (fun _ => True)) (c := co - k) (one_pcs (x := x) (B3.1) (B7.1) (Be.1) (Bg.1) (AA.ext (aa_q (Cg)) hE) trivial (fun _ _ => trivial)) (.inr ⟨_, _, rfl⟩) ((hOd.ext B0).S) (fun _ _ => trivial) (by omega);refine wS 12 hR (sn_eff (v := .slice Dt (1 + (i - k)) C1) (w' := Co) (ex_append rfl (by kernel_rfl) (by kernel_rfl) C5) ?_);refine mv2 hb hE B0 fun hE B0=>?_;have D8 := hb.size;refine ⟨hE, ?_⟩;have Cl := Ext.refl Co;have Ce := Ct.pcs;obtain ⟨Cf, Bq, Cn, C3, D7, Dl, Ch, hb⟩ := app_list (S := (fun _ => True)) (c := C1) ((hOt.ext B0).S) hplo ((Ce.ext (Ext.refl _)).S) (fun _ _ => trivial) (by omega);refine wS 13 hR (sn_eff (v := .slice Cf (k + (1 + (i - k))) Bq) (w' := Cn) (ex_append rfl (by kernel_rfl) (by kernel_rfl) C3) ?_);refine mv2 hb hE B0 fun hE B0=>?_;have Cw := hb.size;refine ⟨hE, ?_⟩;have Bw : k + (1 + (i - k)) = i + 1 := by omega
    have Cd : PcsAt Cn Cf (i + 1) (Prod.sortA (l.take (i + 1))) := by rw [htk, hsa, hat, ← Bw];exact D7.pcs
    have Dr := Ext.refl Cn;refine wV 14 (.slice Cf (k + (1 + (i - k))) Bq) hR hE ?_;refine we hL hR hK ?_;refine qw_block (zq (cK [0,3,4] (fun L => ?_)));refine zp (pT (iv i) ?_);refine pU (iv ((i + 1 : Nat) : Int)) (ew (by omega) (by omega)) ?_;refine pT (iv ((i + 1 : Nat) : Int)) ?_;refine pl_nil (qw_round [0, 3, 4] (ws' := [(0, sv b5 o6 n c), (3, .slice Cf (k + (1 + (i - k))) Bq), (4, iv ((i + 1 : Nat) : Int))]) (by kernel_rfl) _ ?_ ⟨(i + 1), Cf, Bq, (by rw [Bw]), rfl, (by omega), hE, Cd, by omega, (by omega), Ch⟩);omega
  ·
   have hki : k = i := by omega
   have hend : ∀ y, (Prod.sortA (l.take i))[k]? = some y → Prod.better x y = false := fun y hy => by rw [List.getElem?_eq_none (by rw [hO.len]; omega)] at hy;cases hy
   refine cw_seq ?_;refine cw_seq ?_;have Bh := Ext.refl C8;refine dE Tz51_0 (fun w' => True) (trivial) (fun ops Q D9 hb hL hR hK => ?_);refine mv2 hb hE B0 fun hE B0=>?_;have D4 := hb.size;have hS := trivial;refine wW 0 (iv k) 1 (.slice ao i co) hR hS ?_;refine wV 2 (iv i) hR hS ?_;refine wL 3 (.bool false) hR (fun w _ => ev_ndec (show _ = Result.ok (Next.value (Value.bool (decide (((k : Nat) : Int) < ((i : Nat) : Int))))) _ from by kernel_rfl) (by omega)) hS ?_;refine wV 4 (.bool false) hR hS ?_;refine wK 5 hR hS ?_;refine wK 6 hR hS ?_;refine wK 7 hR hS ?_;refine wK 8 hR hS ?_;refine wK 9 hR hS ?_;refine wK 10 hR hS ?_;refine wK 11 hR hS ?_;refine wK 12 hR hS ?_;refine wK 13 hR hS ?_;refine wV 14 (.bool false) hR hS ?_;refine we hL hR hK ?_;refine zq (cK [0,3,4,5,26] (fun L => ?_));refine zf ?_;refine cw_exit (qw_then_exit (qw_then_exit (qw_block_out (qw_then ?_))));have hat := Prod.insA_at (x := x) (l := Prod.sortA (l.take i)) (k := k) (fun j z hj hz => hbt j z hj hz) (by rw [hO.len]; omega) hend;have hOt := PcsAt.take hO (k := k) (by omega);have hOd := PcsAt.drop hO (k := k) (c := co) (by omega) (by omega);have Bk := Ext.refl D9;refine dE Tz51_1 (fun w' => Ext w w') (Ext.drew hE) (fun ops Q E1 hb hL hR hK => ?_);refine mv2 hb hE B0 fun hE B0=>?_;have Cz := hb.size;refine wW 0 (.slice ao i co) 1 (iv k) hR hE ?_;refine wV 2 (iv k) hR hE ?_;refine wL 3 (.slice ao k k) hR (fun w _ => ex_slice (p := .slice ao i co) rfl (by kernel_rfl) (by kernel_rfl) (by kernel_rfl) (by kernel_rfl) (sl30_011a (m := k) (r := k) (by omega) (by omega) (by omega))) hE ?_;refine wW 4 (sv b5 o6 n c) 5 (iv i) hR hE ?_;refine wL 6 (pw b5 (o6 + i * 4)) hR (fun w _ => ex_index (p := sv b5 o6 n c) (i := iv i) rfl (by kernel_rfl) (by kernel_rfl) (ix30 (k := i) (by omega))) hE ?_;refine wM 7 (.agg #[iv x.im, iv x.t, .bool x.cl, .slice Bx k8 c9]) hR (fun w hS => ld49 (hS.cell Bm) (hS.cell Bl) (hS.cell Bo) (hS.cell Bi)) hE ?_;refine wW 9 (.slice ao i co) 10 (iv k) hR hE ?_;refine wL 11 (.slice (if co = k then ao else ao.map (fun x => x.add (k * 4))) (i - k) (co - k)) hR (fun w _ => ex_slice (p := .slice ao i co) rfl (by kernel_rfl) (by kernel_rfl) (by kernel_rfl) (by kernel_rfl) (sl30_100b (k := k) (by omega) (by omega))) hE ?_;refine wS 8 hR (sn_newS (us := #[iv x.im, iv x.t, .bool x.cl, .slice Bx k8 c9]) (t := 49) (k := 1) (c := 1) (by kernel_rfl) ?_);intro Dy Du Dh Di hb hbx;have ⟨B2, Bb, Bc, Ba⟩ := bq4 hbx;refine mv2 hb hE B0 fun hE B0=>?_;have Cy := hb.size;have Dq := B2.lt;refine ⟨hE, ?_⟩;obtain ⟨Dn, C0, D2, C4, Cq, Dk, Df, hb⟩ := app_list (S := (fun _ => True)) (c := co - k) (one_pcs (x := x) (B2.1) (Bb.1) (Bc.1) (Ba.1) (AA.ext (aa_q (Cg)) hE) trivial (fun _ _ => trivial)) (.inr ⟨_, _, rfl⟩) ((hOd.ext B0).S) (fun _ _ => trivial) (by omega);refine wS 12 hR (sn_eff (v := .slice Dn (1 + (i - k)) C0) (w' := D2) (ex_append rfl (by kernel_rfl) (by kernel_rfl) C4) ?_);refine mv2 hb hE B0 fun hE B0=>?_;have Cs := hb.size;refine ⟨hE, ?_⟩;have Ca := Ext.refl D2;have Ck := Cq.pcs;obtain ⟨Ci, Bp, Cm, C6, D0, Da, Cb, hb⟩ := app_list (S := (fun _ => True)) (c := C0) ((hOt.ext B0).S) hplo ((Ck.ext (Ext.refl _)).S) (fun _ _ => trivial) (by omega);refine wS 13 hR (sn_eff (v := .slice Ci (k + (1 + (i - k))) Bp) (w' := Cm) (ex_append rfl (by kernel_rfl) (by kernel_rfl) C6) ?_);replace hE := hE.trans hb;have D1 := hb.size;refine ⟨hE, ?_⟩;have Bw : k + (1 + (i - k)) = i + 1 := by omega
   have Cj : PcsAt Cm Ci (i + 1) (Prod.sortA (l.take (i + 1))) := by rw [htk, hsa, hat, ← Bw];exact D0.pcs
   have Dm := Ext.refl Cm;refine wV 14 (.slice Ci (k + (1 + (i - k))) Bp) hR hE ?_;refine we hL hR hK ?_;refine qw_block (zq (cK [0,3,4] (fun L => ?_)));refine zp (pT (iv i) ?_);refine pU (iv ((i + 1 : Nat) : Int)) (ew (by omega) (by omega)) ?_;refine pT (iv ((i + 1 : Nat) : Int)) ?_;refine pl_nil (qw_round [0, 3, 4] (ws' := [(0, sv b5 o6 n c), (3, .slice Ci (k + (1 + (i - k))) Bp), (4, iv ((i + 1 : Nat) : Int))]) (by kernel_rfl) _ ?_ ⟨(i + 1), Ci, Bp, (by rw [Bw]), rfl, (by omega), hE, Cj, by omega, (by omega), Cb⟩);omega
 ·
  have hin : i = n := by omega
  refine zc (zc (zp (pD (iv i) (.slice a n c) ?_)));refine pT (iv n) ?_;refine pU (.bool false) (en (((i : Nat) : Int) < ((n : Nat) : Int)) (by omega)) ?_;refine zn (zf ?_);refine cw_exit (qw_then_exit (qw_then_exit (qw_block_out (zq (zc (zp (pD (.slice ao i co) (.slice ao i co) ?_)))))));refine zn (cw_ret (qw_ret [.slice ao i co] rfl ⟨(by kernel_rfl), trivial⟩ ?_));exact ⟨ao, co, (by rw [hin]; rfl), by rw [hin, List.take_of_length_le (Nat.le_of_eq hln)] at hO; exact hO.ext (Ext.refl _), by omega, hplo, hE⟩
end Go.Proofs.YtajdohcgjgknmaaGreatDoor
