/- Part 5 of what the proof of ProductMatchesReference stands on. -/
import Derived.Test.YtajdohcgjgknmaaGreatDoorV4ProductMatchesReference
import Derived.Test.YtajdohcgjgknmaaGreatDoorTie
import Derived.Test.YtajdohcgjgknmaaGreatDoorCards
import Derived.ProofKit
import Derived.OpenShut
import Derived.ChangeOld
import Derived.LaidMore
import Derived.Stop.Joined
import Derived.Stop.LaidErr
import Derived.Lib.LaidTab
import Derived.SevenTiedAt
import Derived.Deep.Slices
namespace Go.Proofs.YtajdohcgjgknmaaGreatDoor
set_option maxRecDepth 1000000
set_option maxHeartbeats 4000000
set_option synthInstance.maxHeartbeats 0
set_option synthInstance.maxSize 9999
open Go.RowKit
def Tz42_0 : List Row := [(some 29, [], []), (some 30, [1], []), (some 31, [2], []), (some 32, [30, 31], [1, 2]), (some 33, [29, 32], [0, 3, 0]), (some 28, [33], [4]), (some 34, [28], [5]), (some 35, [28], [5]), (some 4, [], []), (none, [4, 34], [8, 6, 4, 0, 1, 2, 3, 4, 5, 6, 8]), (some 5, [35], [7, 9, 0, 1, 2, 3, 4, 5, 6, 7, 8, 9])]
def Tz42_1 : List Row := [(some 43, [], []), (some 44, [2], []), (some 45, [44], [1]), (some 46, [43, 45], [0, 2, 0]), (some 42, [46], [3]), (some 47, [42], [4]), (some 48, [42], [4]), (some 8, [], []), (none, [8, 47], [7, 5, 3, 0, 1, 2, 3, 4, 5, 7]), (some 9, [48], [6, 8, 0, 1, 2, 3, 4, 5, 6, 7, 8])]
def Tz42_2 : List Row := [(some 55, [8], []), (some 56, [], []), (some 57, [56], [1]), (some 58, [55, 57], [0, 2, 1]), (some 54, [58], [3]), (some 59, [54], [4]), (some 60, [54], [4]), (some 12, [], []), (none, [12, 59], [7, 5, 3, 0, 1, 2, 3, 4, 5, 7]), (some 13, [60], [6, 8, 0, 1, 2, 3, 4, 5, 6, 7, 8])]
def Tz42_3 : List Row := [(some 88, [4], []), (some 89, [], []), (some 90, [], [1]), (some 91, [90], [2]), (some 92, [], [2]), (some 93, [92], [4]), (some 94, [91, 93], [3, 5]), (some 95, [89, 94], [1, 6]), (some 96, [88, 95], [0, 7, 4]), (some 16, [96], [8, 8, 0, 1, 2, 3, 4, 5, 6, 7, 8])]
def Tz42_4 : List Row := [(some 97, [6], []), (some 98, [], []), (some 99, [], [1]), (some 100, [99], [2]), (some 101, [], [2]), (some 102, [101], [4]), (some 103, [3], []), (some 104, [100, 102, 103], [3, 5, 6]), (some 105, [98, 104], [1, 7]), (some 106, [97, 105], [0, 8, 4]), (some 17, [106], [9, 9, 0, 1, 2, 3, 4, 5, 6, 7, 8, 9])]
def Tz42_5 : List Row := [(some 119, [16], []), (some 120, [119], [0]), (some 121, [17, 120], [1]), (some 122, [120, 121], [1, 2]), (some 123, [122], [3, 1]), (some 124, [10, 123], [4]), (some 125, [123], [4, 4]), (some 126, [124, 125, 123], [5, 6, 6, 4]), (some 127, [123, 126], [4, 7]), (some 128, [127], [8, 7]), (some 129, [12, 128], [9]), (some 130, [8, 128], [9]), (some 131, [129, 130, 128], [10, 11, 9, 9]), (some 132, [128, 131], [9, 12]), (some 133, [132], [13, 12]), (some 134, [4, 133], [14]), (some 135, [6, 133], [14]), (some 136, [134, 135, 133], [15, 16, 14, 14]), (some 137, [136, 133], [17, 14]), (some 138, [133, 137], [14, 18]), (some 139, [138], [19, 17]), (some 140, [19, 139], [20]), (some 141, [139, 140], [20, 21]), (some 142, [141], [22, 20]), (some 143, [18, 142], [23]), (some 144, [143, 142], [24, 23]), (some 145, [142, 144], [23, 25]), (some 146, [145], [26, 23]), (some 147, [21, 146], [27]), (some 148, [147, 146], [28, 27]), (some 149, [146, 148], [27, 29]), (some 150, [149], [30, 27]), (some 151, [4, 150], [31]), (some 152, [151, 150], [32, 31, 31]), (some 153, [150, 152], [31, 33]), (some 154, [153], [34, 33]), (some 155, [8, 154], [35]), (some 156, [155, 154], [36, 35, 35]), (some 157, [156, 154], [37, 35]), (some 158, [154, 157], [35, 38]), (some 159, [158], [39, 37]), (some 160, [6, 159], [40]), (some 161, [4, 159], [40]), (some 162, [160, 161, 159], [41, 42, 40, 40]), (some 163, [159, 162], [40, 43]), (some 164, [163], [44, 43]), (some 165, [4, 164], [45]), (some 166, [6, 164], [45]), (some 167, [165, 166, 164], [46, 47, 45, 45]), (some 168, [167, 164], [48, 45]), (some 169, [164, 168], [45, 49]), (some 170, [169], [50, 48]), (some 171, [6, 170], [51]), (some 172, [171, 170], [52, 51, 51]), (some 173, [170, 172], [51, 53]), (some 174, [173], [54, 53]), (some 175, [174], [55]), (some 176, [175, 174], [56, 55, 55]), (some 177, [176, 174], [57, 55]), (some 178, [174, 177], [55, 58]), (some 0, [178], [59, 57, 0, 1, 2, 3, 4, 5, 6, 7, 8, 9, 10, 11, 12, 13, 14, 15, 16, 17, 18, 19, 20, 21, 22, 23, 24, 25, 26, 27, 28, 29, 30, 31, 32, 33, 34, 35, 36, 37, 38, 39, 40, 41, 42, 43, 44, 45, 46, 47, 48, 49, 50, 51, 52, 53, 54, 55, 56, 57, 58, 59])]
theorem PcsS.both {m : Nat} {w : World} {a : Option Addr} {n : Nat} {l : List Prod.Pc} (h : PcsS (fun k => m ≤ k) w a n l) : PcsS (fun k => m ≤ k ∧ k < w.heap.size) w a n l := by
  obtain ⟨rs, h1, h2, h3, h4⟩ := h
  have h9 := PcsAt.now ⟨rs, h1, h2⟩
  refine ⟨rs, h1, h2, fun q ad e => ⟨h3 q ad e, ?_⟩, fun x hx q ad e => ⟨h4 x hx q ad e, ?_⟩⟩
  · obtain ⟨g1, g2, g3⟩ := h1
    rcases g3 with g3 | ⟨b, o, e', hx⟩
    · omega
    · rw [e] at e'; cases e'
      exact World.block_lt_of_cell? _ _ (hx 0 _ (List.getElem?_eq_getElem (by omega))).1
  · obtain ⟨i, hi⟩ := List.getElem?_of_mem hx
    obtain ⟨p, hp, e1, e2, e3, e4⟩ := h2.at hi
    exact aa_lt e4 q ad e
def rowL (bits : Int) : List Int := bits :: List.replicate 23 0
set_option maxHeartbeats 4000000 in
theorem row_c (bits : Int) (w : World) : Calls Tryz.prog 73 #[.int .i64 bits] w (RetA w (rowL bits)) := by
 have hmk := make24
 go_enter Tryz.func73, Tryz.ntmps73
 go_wp2
 refine bodyPost_ret (v := .agg #[.slice (some ⟨w.heap.size + 1, 0, none⟩) 24 24]) (by simp [results, Tryz.results73, go_sem]) rfl ⟨w.heap.size + 1, rfl, by omega, ?_, by (repeat' (first | (with_reducible assumption) | (with_reducible exact Ext.refl _) | (with_reducible refine Ext.alloc ?_ _) | (with_reducible refine Ext.drew ?_) | (with_reducible refine Ext.drewN ?_ _) | (with_reducible refine Ext.setCell ?_ ?_ _) | (with_reducible refine Ext.trans ?_ (by assumption)) | go_size))⟩
 have h9 := RowsAt.new (w.alloc (.cells #[.slice (some ⟨w.heap.size + 1, 0, none⟩) 24 24] 33)) (rowL bits) 3 rfl
 rw [World.size_alloc] at h9
 exact h9.ext (Ext.alloc (Ext.refl _) _)
theorem RetB.eq {w : World} {ok : Bool} {id ver ver' : Int} {ar : List Int} {l l' : List Prod.Pc} {e : Ending} {w' : World} (h : RetB w ok id ver ar l e w') (k : ok = true) (hv : ver = ver') (hl : l = l') : RetPrd w id ver' ar l' e w' := by subst hv hl; exact h.y k
def PcsB (w : World) (b o : Nat) (l : List Prod.Pc) : Prop := ∃ rs, (∀ (i : Nat) x, rs[i]? = some x → RawAt w b (o + i * 4) x) ∧ Reads w rs l
theorem PcsB.nil {w : World} {b o : Nat} : PcsB w b o [] := ⟨[], fun i x h => by simp at h, trivial⟩
theorem PcsB.cons {w : World} {b o o' : Nat} {l : List Prod.Pc} {p : Prod.Pc} {ar : Option Addr} {k c : Nat} (ho : o' = o + 4) (c0 : w.cell? ⟨b, o, none⟩ = some (.int .i64 p.im)) (c1 : w.cell? ⟨b, o + 1, none⟩ = some (.int .i64 p.t)) (c2 : w.cell? ⟨b, o + 2, none⟩ = some (.bool p.cl)) (c3 : w.cell? ⟨b, o + 3, none⟩ = some (.slice ar k c)) (hA : AA w ar p.rw k (Globe.validL p.rw)) (h : PcsB w b o' l) : PcsB w b o (p :: l) := by
 subst ho
 obtain ⟨rs, h1, h2⟩ := h
 refine ⟨⟨p.im, p.t, p.cl, ar, k, c⟩ :: rs, fun i x hx => ?_, ⟨rfl, rfl, rfl, hA⟩, h2⟩
 cases i with
 | zero => simp at hx; subst hx; rw [Nat.zero_mul]; exact ⟨c0, c1, c2, c3⟩
 | succ i =>
  have := h1 i x (by simpa using hx)
  rwa [show o + (i + 1) * 4 = o + 4 + i * 4 by omega]
theorem PcsB.at {w : World} {b n : Nat} {l : List Prod.Pc} (h : PcsB w b 0 l) (hl : l.length = n) (hn : n ≤ 1000) : PcsAt w (some ⟨b, 0, none⟩) n l := by
 obtain ⟨rs, h1, h2⟩ := h
 have := h2.len
 exact ⟨rs, ⟨by omega, by omega, .inr ⟨b, 0, rfl, h1⟩⟩, h2⟩
theorem aa_nil (w : World) : AA w none [] 0 (Globe.validL []) := ⟨.inl rfl, rfl, Nat.zero_le _, rfl⟩
def p4 : Prod.Pc := ⟨4, 100, true, rowL 3⟩
def p5 : Prod.Pc := ⟨5, 200, false, rowL 6⟩
def p6 : Prod.Pc := ⟨6, 300, true, rowL 2⟩
def p7 : Prod.Pc := ⟨7, 150, false, rowL 2⟩
def p5' : Prod.Pc := ⟨5, 200, false, rowL 4⟩
def p4' : Prod.Pc := ⟨4, 100, true, rowL 1⟩
section
variable {w1 w2 w3 w4 : World} {id ver id2 ver2 : Int} {ar ar2 : List Int} {ps qs : List Prod.Pc} {a1 a b1 b : Option Addr} {n1 n m1 m : Nat} {r : Bool}
theorem pSame_r (c1 c d1 d : Nat) (w : World) (hA : AA w1 a1 ar n1 (Globe.validL ar)) (e1 : Ext w1 w) (hP : PcsAt w2 a n ps) (e2 : Ext w2 w) (hB : AA w3 b1 ar2 m1 (Globe.validL ar2)) (e3 : Ext w3 w) (hQ : PcsAt w4 b m qs) (e4 : Ext w4 w) (hr : Prod.sameP id ver ar ps id2 ver2 ar2 qs = r) : Calls Tryz.prog 31 #[.agg #[.int .i64 id, .int .i64 ver, .slice a1 n1 c1, .slice a n c], .agg #[.int .i64 id2, .int .i64 ver2, .slice b1 m1 d1, .slice b m d]] w fun e w' => e = .returned (.bool r) ∧ Ext w w' := hr ▸ pSame_c c1 c d1 d w hA e1 hP e2 hB e3 hQ e4
theorem rpSame_r (c1 c d1 d : Nat) (w : World) (hA : AA w1 a1 ar n1 (Globe.validL ar)) (e1 : Ext w1 w) (hP : PcsAt w2 a n ps) (e2 : Ext w2 w) (hB : AA w3 b1 ar2 m1 (Globe.validL ar2)) (e3 : Ext w3 w) (hQ : PcsAt w4 b m qs) (e4 : Ext w4 w) (hr : Prod.sameP id ver ar ps id2 ver2 ar2 qs = r) : Calls Tryz.prog 32 #[.agg #[.int .i64 id, .int .i64 ver, .slice a1 n1 c1, .slice a n c], .agg #[.int .i64 id2, .int .i64 ver2, .slice b1 m1 d1, .slice b m d]] w fun e w' => e = .returned (.bool r) ∧ Ext w w' := hr ▸ rpSame_c c1 c d1 d w hA e1 hP e2 hB e3 hQ e4
theorem Over_r (c1 d1 : Nat) {c d : Nat} (w : World) (hnc : n ≤ c) (hmd : m ≤ d) (hA : AA w1 a1 ar n1 (Globe.validL ar)) (e1 : Ext w1 w) (hP : PcsAt w2 a n ps) (e2 : Ext w2 w) (hB : AA w3 b1 ar2 m1 (Globe.validL ar2)) (e3 : Ext w3 w) (hQ : PcsAt w4 b m qs) (e4 : Ext w4 w) (hT : Tab w) (hr : Prod.overB id ver ar ps id2 ver2 ar2 qs = r) : Calls Tryz.prog 33 #[.agg #[.int .i64 id, .int .i64 ver, .slice a1 n1 c1, .slice a n c], .agg #[.int .i64 id2, .int .i64 ver2, .slice b1 m1 d1, .slice b m d]] w fun e w' => e = .returned (.bool r) ∧ Ext w w' := hr ▸ Over_c c1 d1 w hnc hmd hA e1 hP e2 hB e3 hQ e4 hT
theorem Complete_r (c1 : Nat) {c : Nat} (w : World) (hnc : n ≤ c) (hA : AA w1 a1 ar n1 (Globe.validL ar)) (e1 : Ext w1 w) (hP : PcsAt w2 a n ps) (e2 : Ext w2 w) (hT : Tab w) (hr : (Prod.validP id ver ar ps && Prod.noC (Prod.rest ar ps)) = r) : Calls Tryz.prog 17 #[.agg #[.int .i64 id, .int .i64 ver, .slice a1 n1 c1, .slice a n c]] w fun e w' => e = .returned (.bool r) ∧ Ext w w' := hr ▸ Complete_c c1 w hnc hA e1 hP e2 hT
end
theorem sane_c (w : World) (hT : Tab w) : Calls Tryz.prog 21 #[] w fun e w' => e = .returned (.bool true) ∧ Ext w w' := by
 refine calls_cw 179 [] Tryz.func21 rfl Tryz.ntmps21 (by kernel_rfl) (by kernel_rfl) (fun L => ?_);have hE := Ext.refl w;refine zc (zp (pT (.bool false) ?_));refine zn (zc (zp (pS (sc 73 #[iv 3] ((row_c 3 _).mono ?_)))));rintro e w4 ⟨B1, rfl, hn2, hr3, hb⟩;replace hE := hE.trans hb;have Jn := hb.size;have J7 := hr3.va (show Globe.validL (rowL 3) = true by kernel_rfl);have lt6 := J7.lt;refine ⟨_, rfl, pT (.agg #[iv 4, iv 100, .bool true, sv B1 0 24 24]) ?_⟩;refine pS (sw 49 #[iv 0, iv 0, .bool false, .slice none 0 0] ?_);intro O7 X8 Z6 Ba2 hb hbx;have ⟨K8, Kq, L9, Ku⟩ := bq4 hbx;refine mv2 hb hE J7 fun hE J7=>?_;have Jr := hb.size;have Bal := K8.lt;refine pP (zG O7 (iv 4) (iv 100) (.bool true) (sv B1 0 24 24) (st49 K8.1 K8.2 Kq.1 Kq.2 L9.1 L9.2 Ku.1 Ku.2) K8 Kq L9 Ku ?_);intro X11 ho K8 Kq L9 Ku hk;replace hE := ho.ext hE (T Jn (Nat.le_of_eq Z6));replace J7 := ho.va (by omega) J7;have E5 := Nat.le_of_eq ho.size.symm;clear ho hk;refine pl_nil (qw_then ?_);refine cw_seq ?_;have N5 := Ext.refl X11;refine zp (pS (sc 73 #[iv 6] ((row_c 6 _).mono ?_)));rintro e w17 ⟨Ma, rfl, Bba, B52, hb⟩;refine mv2 hb hE N5 fun hE N5=>?_;have Du := hb.size;have Cq := B52.va (show Globe.validL (rowL 6) = true by kernel_rfl);have B4o := Cq.lt;refine ⟨_, rfl, pT (.agg #[iv 5, iv 200, .bool false, sv Ma 0 24 24]) ?_⟩;refine pS (sw 49 #[iv 0, iv 0, .bool false, .slice none 0 0] ?_);intro Rg X21 Rm B7t hb hbx;have ⟨Gf, Ig, I5, Hz⟩ := bq4 hbx;refine mv3 hb hE N5 Cq fun hE N5 Cq=>?_;have Ea := hb.size;have B9h := Gf.lt;refine pP (zG Rg (iv 5) (iv 200) (.bool false) (sv Ma 0 24 24) (st49 Gf.1 Gf.2 Ig.1 Ig.2 I5.1 I5.2 Hz.1 Hz.2) Gf Ig I5 Hz ?_);intro X24 ho Gf Ig I5 Hz hk;replace hE := ho.ext hE (by omega);replace N5 := ho.ext N5 (T Du (Nat.le_of_eq Rm));replace Cq := ho.va (by omega) Cq;have Ed := Nat.le_of_eq ho.size.symm;clear ho hk;refine pl_nil (qw_then ?_);refine cw_seq ?_;have Fl := Ext.refl X24;refine zp (pS (sc 73 #[iv 2] ((row_c 2 _).mono ?_)));rintro e w30 ⟨V1, rfl, B9o, B5i, hb⟩;refine mv2 hb hE Fl fun hE Fl=>?_;have E0 := hb.size;have K4 := B5i.va (show Globe.validL (rowL 2) = true by kernel_rfl);have B4b := K4.lt;refine ⟨_, rfl, pT (.agg #[iv 6, iv 300, .bool true, sv V1 0 24 24]) ?_⟩;refine pS (sw 49 #[iv 0, iv 0, .bool false, .slice none 0 0] ?_);intro Js X34 Qi B8r hb hbx;have ⟨G8, I6, Ia, Ic⟩ := bq4 hbx;refine mv3 hb hE Fl K4 fun hE Fl K4=>?_;have Ef := hb.size;have Bbn := G8.lt;refine pP (zG Js (iv 6) (iv 300) (.bool true) (sv V1 0 24 24) (st49 G8.1 G8.2 I6.1 I6.2 Ia.1 Ia.2 Ic.1 Ic.2) G8 I6 Ia Ic ?_);intro Sn ho G8 I6 Ia Ic hk;replace hE := ho.ext hE (by omega);replace Fl := ho.ext Fl (T E0 (Nat.le_of_eq Qi));replace K4 := ho.va (by omega) K4;have Ee := Nat.le_of_eq ho.size.symm;clear ho hk;refine pl_nil (qw_then ?_);refine cw_seq ?_;have B2 := Ext.refl Sn;have Jl := N5.trans Fl;refine cw_join (fun ws' Y => ∃ Pd Kk : Nat, ∃ Jo Kl Ko : Nat, ∃ Kc : Option Addr, ∃ K3 Kn J2 : Nat, ws' = [(2, pw Rg 0), (3, pw Js 0), (4, pw J2 0), (5, iv 0)] ∧ Ext w Y ∧ Ext Sn Y ∧ VA Y Pd 0 (rowL 7) ∧ BoxAt Y Kk 0 (iv 4) ∧ BoxAt Y Kk 1 (iv 100) ∧ BoxAt Y Kk 2 (.bool true) ∧ BoxAt Y Kk 3 (sv B1 0 24 24) ∧ BoxAt Y Kk 4 (iv 5) ∧ BoxAt Y Kk 5 (iv 200) ∧ BoxAt Y Kk 6 (.bool false) ∧ BoxAt Y Kk 7 (sv Ma 0 24 24) ∧ K3 ≤ Kn ∧ Pl Kc ∧ VA Y Jo Kl (rowL 7) ∧ PcsAt Y Kc K3 ([p5', p4]) ∧ BoxAt Y J2 0 (iv 1) ∧ BoxAt Y J2 1 (iv 1) ∧ BoxAt Y J2 2 (sv Jo Kl 24 Ko) ∧ BoxAt Y J2 3 (.slice Kc K3 Kn) ∧ Sn.heap.size ≤ Y.heap.size ∧ Sn.heap.size ≤ Pd ∧ Sn.heap.size ≤ Kk ∧ Sn.heap.size ≤ Jo ∧ Sn.heap.size ≤ J2 ∧ Hid (Pd ≠ Kk) ∧ Hid (Pd ≠ Jo) ∧ Hid (Pd ≠ J2) ∧ Hid (Kk ≠ Jo) ∧ Hid (Kk ≠ J2) ∧ Hid (Jo ≠ J2)) (fun hJ => ?_) ?_
 ·
  refine dE Tz42_0 (fun w' => Ext Sn w') (Ext.drew (Ext.refl _)) (fun ops Q X41 hb hL hR hK => ?_);refine mv2 hb hE B2 fun hE B2=>?_;have Bx := hb.size;refine wM 1 (.agg #[iv 4, iv 100, .bool true, sv B1 0 24 24]) hR (fun w hS => ld49 (K8.c (Jl.trans hS)) (Kq.c (Jl.trans hS)) (L9.c (Jl.trans hS)) (Ku.c (Jl.trans hS))) B2 ?_;refine wM 2 (.agg #[iv 5, iv 200, .bool false, sv Ma 0 24 24]) hR (fun w hS => ld49 (Gf.c (Fl.trans hS)) (Ig.c (Fl.trans hS)) (I5.c (Fl.trans hS)) (Hz.c (Fl.trans hS))) B2 ?_;refine wd_three 0 3 8 hR rfl rfl rfl (by kernel_rfl) (by kernel_rfl) (by kernel_rfl) (by kernel_rfl) (by kernel_rfl) ?_ ?_ ?_
  ·
   refine sc 73 #[iv 7] ((row_c 7 _).mono ?_);rintro e w46 ⟨Pd, rfl, Xh, B4x, hb⟩;refine mv2 hb hE B2 fun hE B2=>?_;have G5 := hb.size;have C1 := B4x.va (show Globe.validL (rowL 7) = true by kernel_rfl);have Jp := C1.lt;refine ⟨_, rfl, B2, ?_⟩;refine zw 3 8 hR ?_ ?_
   ·
    refine sn_newS (us := #[iv 4, iv 100, .bool true, sv B1 0 24 24, iv 5, iv 200, .bool false, sv Ma 0 24 24]) (t := 49) (k := 2) (c := 2) (by kernel_rfl) ?_;intro Kk X50 Nq B8a hb hbx;have ⟨C8, Co, Cn, Cg, Ci, Cm, Cd, Cf⟩ := bq8 hbx;refine mv3 hb hE B2 C1 fun hE B2 C1=>?_;have He := hb.size;have Pu := C8.lt;refine ⟨B2, ?_⟩;refine zw 4 8 hR ?_ ?_
    ·
     have B0d : PcsAt X50 (some ⟨Kk, 0, none⟩) 2 [p4, p5] := PcsB.at (PcsB.cons (p := p4) (o := 0) (o' := 4) rfl (C8.1) (Co.1) (Cn.1) (Cg.1) (AA.ext (aa_q (J7.aa)) (Jl.trans B2)) (PcsB.cons (p := p5) (o := 4) (o' := 8) rfl (Ci.1) (Cm.1) (Cd.1) (Cf.1) (AA.ext (aa_q (Cq.aa)) (Fl.trans B2)) PcsB.nil)) rfl (by omega);refine sc 13 #[iv 1, .agg #[sv Pd 0 24 24], sv Kk 0 2 2] (((Build_c (id := 1) _ _ (by omega) (aa_q (C1.aa)) (Ext.refl _) B0d (Ext.refl _) (hT.ext hE)).mono fun _ _ h => h.eq (by kernel_rfl) rfl (show _ = [p5', p4] by kernel_rfl)).mono ?_);rintro e w68 ⟨a54, n55, Ko, Kc, K3, Kn, rfl, B4h, Zr, B5w, Uh, Qj, hb⟩;refine mv9 hb hE B2 C1 C8 Co Cn Cg Ci Cm fun hE B2 C1 C8 Co Cn Cg Ci Cm=>?_;refine mv2 hb Cd Cf fun Cd Cf=>?_;have M5 := hb.size;obtain ⟨Jo, Kl, rfl, rfl, Io⟩ := va_of B4h (by kernel_rfl);have Mr := Zr _ rfl;have B2u := Io.lt;have Mh : PcsS (fun k => X50.heap.size ≤ k ∧ k < w68.heap.size) w68 Kc K3 ([p5', p4]) := PcsS.both B5w;refine ⟨_, rfl, B2, ?_⟩;refine wW 5 (.tuple #[.agg #[iv 1, iv 1, sv Jo Kl 24 Ko, .slice Kc K3 Kn], iv 0]) 6 (.agg #[iv 1, iv 1, sv Jo Kl 24 Ko, .slice Kc K3 Kn]) hR B2 ?_;refine wV 7 (iv 0) hR B2 ?_;refine wN 8 53 #[iv 0, iv 0, .slice none 0 0, .slice none 0 0] hR ?_;intro J2 X72 Hs B90 hb hbx;have ⟨Cv, Db, Da, D9⟩ := bq4 hbx;refine mv12 hb hE B2 C1 C8 Co Cn Cg Ci Cm Cd Cf Io fun hE B2 C1 C8 Co Cn Cg Ci Cm Cd Cf Io=>?_;replace Mh := Mh.ext hb;have B58 := hb.size;have Bbf := Cv.lt;refine ⟨B2, ?_⟩;refine wS 9 hR (sn_setK4 (O := J2) (j := 0) (v0 := iv 1) (v1 := iv 1) (v2 := sv Jo Kl 24 Ko) (v3 := .slice Kc K3 Kn) (ex_store (p := pw J2 0) (v := .agg #[iv 1, iv 1, sv Jo Kl 24 Ko, .slice Kc K3 Kn]) rfl (by kernel_rfl) (by kernel_rfl) (st53 Cv.1 Cv.2 Db.1 Db.2 Da.1 Da.2 D9.1 D9.2)) Cv Db Da D9 ?_);intro X75 ho Cv Db Da D9 hk;replace hE := ho.ext hE (by omega);replace B2 := ho.ext B2 (by omega);replace C1 := ho.va (by omega) C1;have q9 := ho.bx Kk (by omega);replace C8 := q9 C8;replace Co := q9 Co;replace Cn := q9 Cn;replace Cg := q9 Cg;replace Ci := q9 Ci;replace Cm := q9 Cm;replace Cd := q9 Cd;replace Cf := q9 Cf;clear q9;replace Io := ho.va (by omega) Io;replace Mh := Mh.turn ho (fun h => absurd h.2 (Nat.not_lt_of_le (Nat.le_of_eq Hs)));have B51 := Nat.le_of_eq ho.size.symm;clear ho hk;refine ⟨B2, ?_⟩;refine wV 10 (iv 0) hR B2 ?_;refine we hL hR hK ?_;have Jk := PcsS.pcs Mh;have B4a := Ext.refl X75;exact zl hJ [2, 3, 4, 5] ⟨Pd, Kk, Jo, Kl, Ko, Kc, K3, Kn, J2, rfl, hE, (B2.trans B4a), C1, C8, Co, Cn, Cg, Ci, Cm, Cd, Cf, Uh, Qj, Io, Jk, Cv, Db, Da, D9, (T Bx (T G5 (T He (T M5 (T B58 B51))))), (T Bx Xh), (T (T Bx G5) (Nat.le_of_eq Nq)), (T (T Bx (T G5 He)) Mr), (by omega), Lib.hid (by omega), Lib.hid (by omega), Lib.hid (by omega), Lib.hid (by omega), Lib.hid (by omega), Lib.hid (by omega)⟩
    ·
     refine sw 53 #[iv 0, iv 0, .slice none 0 0, .slice none 0 0] ?_;intro O79 X80 K6 B78 hb hbx;have ⟨Fz, G6, Gg, G9⟩ := bq4 hbx;refine mv9 hb hE B2 C1 C8 Co Cn Cg Ci Cm fun hE B2 C1 C8 Co Cn Cg Ci Cm=>?_;refine mv2 hb Cd Cf fun Cd Cf=>?_;have Ua := hb.size;have Xv := Fz.lt;refine ⟨B2, ?_⟩;have B2p : PcsAt X80 (some ⟨Kk, 0, none⟩) 2 [p4, p5] := PcsB.at (PcsB.cons (p := p4) (o := 0) (o' := 4) rfl (C8.1) (Co.1) (Cn.1) (Cg.1) (AA.ext (aa_q (J7.aa)) (Jl.trans B2)) (PcsB.cons (p := p5) (o := 4) (o' := 8) rfl (Ci.1) (Cm.1) (Cd.1) (Cf.1) (AA.ext (aa_q (Cq.aa)) (Fl.trans B2)) PcsB.nil)) rfl (by omega);refine wC 4 13 #[iv 1, .agg #[sv Pd 0 24 24], sv Kk 0 2 2] hR (((Build_c (id := 1) _ _ (by omega) (aa_q (C1.aa)) (Ext.refl _) B2p (Ext.refl _) (hT.ext hE)).mono fun _ _ h => h.eq (by kernel_rfl) rfl (show _ = [p5', p4] by kernel_rfl)).mono ?_);rintro e w98 ⟨a84, n85, k86, Yo, Yn, Z3, rfl, B5d, B1g, B62, B1z, B1j, hb⟩;refine mv12 hb hE B2 C1 C8 Co Cn Cg Ci Cm Cd Cf Fz fun hE B2 C1 C8 Co Cn Cg Ci Cm Cd Cf Fz=>?_;refine mv3 hb G6 Gg G9 fun G6 Gg G9=>?_;have B5s := hb.size;obtain ⟨Yz, o96, rfl, rfl, U8⟩ := va_of B5d (by kernel_rfl);have K7 := B1g _ rfl;have B7z := U8.lt;have Sf : PcsS (fun k => X80.heap.size ≤ k ∧ k < w98.heap.size) w98 Yo Yn ([p5', p4]) := PcsS.both B62;refine ⟨_, rfl, B2, ?_⟩;refine wW 5 (.tuple #[.agg #[iv 1, iv 1, sv Yz o96 24 k86, .slice Yo Yn Z3], iv 0]) 6 (.agg #[iv 1, iv 1, sv Yz o96 24 k86, .slice Yo Yn Z3]) hR B2 ?_;refine wV 7 (iv 0) hR B2 ?_;refine wS 9 hR (sn_setK4 (O := O79) (j := 0) (v0 := iv 1) (v1 := iv 1) (v2 := sv Yz o96 24 k86) (v3 := .slice Yo Yn Z3) (ex_store (p := pw O79 0) (v := .agg #[iv 1, iv 1, sv Yz o96 24 k86, .slice Yo Yn Z3]) rfl (by kernel_rfl) (by kernel_rfl) (st53 Fz.1 Fz.2 G6.1 G6.2 Gg.1 Gg.2 G9.1 G9.2)) Fz G6 Gg G9 ?_);intro V0 ho Fz G6 Gg G9 hk;replace hE := ho.ext hE (by omega);replace B2 := ho.ext B2 (T (T Bx (T G5 He)) (Nat.le_of_eq K6));replace C1 := ho.va (by omega) C1;have q9 := ho.bx Kk (by omega);replace C8 := q9 C8;replace Co := q9 Co;replace Cn := q9 Cn;replace Cg := q9 Cg;replace Ci := q9 Ci;replace Cm := q9 Cm;replace Cd := q9 Cd;replace Cf := q9 Cf;clear q9;replace U8 := ho.va (by omega) U8;replace Sf := Sf.turn ho (fun h => absurd h.1 (Nat.not_le_of_lt (Nat.lt_of_lt_of_le Xv (Nat.le_refl _))));have B2d := Nat.le_of_eq ho.size.symm;clear ho hk;refine ⟨B2, ?_⟩;refine wV 10 (iv 0) hR B2 ?_;refine we hL hR hK ?_;have Vz := PcsS.pcs Sf;have B33 := Ext.refl V0;exact zl hJ [2, 3, 4, 5] ⟨Pd, Kk, Yz, o96, k86, Yo, Yn, Z3, O79, rfl, hE, (B2.trans B33), C1, C8, Co, Cn, Cg, Ci, Cm, Cd, Cf, B1z, B1j, U8, Vz, Fz, G6, Gg, G9, (T Bx (T G5 (T He (T Ua (T B5s B2d))))), (T Bx Xh), (T (T Bx G5) (Nat.le_of_eq Nq)), (T (T Bx (T G5 (T He Ua))) K7), (T (T Bx (T G5 He)) (Nat.le_of_eq K6)), Lib.hid (by omega), Lib.hid (by omega), Lib.hid (by omega), Lib.hid (by omega), Lib.hid (by omega), Lib.hid (by omega)⟩
   ·
    refine sw 53 #[iv 0, iv 0, .slice none 0 0, .slice none 0 0] ?_;intro Sq Bb5 Ka B5x hb hbx;have ⟨Cx, Dr, Dp, Dg⟩ := bq4 hbx;refine mv3 hb hE B2 C1 fun hE B2 C1=>?_;have Me := hb.size;have Mj := Cx.lt;refine ⟨B2, ?_⟩;refine wS 3 hR (sn_newS (us := #[iv 4, iv 100, .bool true, sv B1 0 24 24, iv 5, iv 200, .bool false, sv Ma 0 24 24]) (t := 49) (k := 2) (c := 2) (by kernel_rfl) ?_);intro Sx B2h M0 B5y hb hbx;have ⟨Ft, Gr, Ha, Gy, H4, Gt, Gj, Gi⟩ := bq8 hbx;refine mv7 hb hE B2 C1 Cx Dr Dp Dg fun hE B2 C1 Cx Dr Dp Dg=>?_;have Kt := hb.size;have B1c := Ft.lt;refine ⟨B2, ?_⟩;have Ws : PcsAt B2h (some ⟨Sx, 0, none⟩) 2 [p4, p5] := PcsB.at (PcsB.cons (p := p4) (o := 0) (o' := 4) rfl (Ft.1) (Gr.1) (Ha.1) (Gy.1) (AA.ext (aa_q (J7.aa)) (Jl.trans B2)) (PcsB.cons (p := p5) (o := 4) (o' := 8) rfl (H4.1) (Gt.1) (Gj.1) (Gi.1) (AA.ext (aa_q (Cq.aa)) (Fl.trans B2)) PcsB.nil)) rfl (by omega);refine wC 4 13 #[iv 1, .agg #[sv Pd 0 24 24], sv Sx 0 2 2] hR (((Build_c (id := 1) _ _ (by omega) (aa_q (C1.aa)) (Ext.refl _) Ws (Ext.refl _) (hT.ext hE)).mono fun _ _ h => h.eq (by kernel_rfl) rfl (show _ = [p5', p4] by kernel_rfl)).mono ?_);rintro e Vg ⟨Bbg, Ba6, Ru, Pe, P4, Rf, rfl, B1h, Xt, Zu, V9, We, hb⟩;refine mv12 hb hE B2 C1 Cx Dr Dp Dg Ft Gr Ha Gy H4 fun hE B2 C1 Cx Dr Dp Dg Ft Gr Ha Gy H4=>?_;refine mv3 hb Gt Gj Gi fun Gt Gj Gi=>?_;have B05 := hb.size;obtain ⟨S5, Qn, rfl, rfl, Nm⟩ := va_of B1h (by kernel_rfl);have Ih := Xt _ rfl;have B7n := Nm.lt;have N8 : PcsS (fun k => B2h.heap.size ≤ k ∧ k < Vg.heap.size) Vg Pe P4 ([p5', p4]) := PcsS.both Zu;refine ⟨_, rfl, B2, ?_⟩;refine wW 5 (.tuple #[.agg #[iv 1, iv 1, sv S5 Qn 24 Ru, .slice Pe P4 Rf], iv 0]) 6 (.agg #[iv 1, iv 1, sv S5 Qn 24 Ru, .slice Pe P4 Rf]) hR B2 ?_;refine wV 7 (iv 0) hR B2 ?_;refine wS 9 hR (sn_setK4 (O := Sq) (j := 0) (v0 := iv 1) (v1 := iv 1) (v2 := sv S5 Qn 24 Ru) (v3 := .slice Pe P4 Rf) (ex_store (p := pw Sq 0) (v := .agg #[iv 1, iv 1, sv S5 Qn 24 Ru, .slice Pe P4 Rf]) rfl (by kernel_rfl) (by kernel_rfl) (st53 Cx.1 Cx.2 Dr.1 Dr.2 Dp.1 Dp.2 Dg.1 Dg.2)) Cx Dr Dp Dg ?_);intro Xs ho Cx Dr Dp Dg hk;replace hE := ho.ext hE (by omega);replace B2 := ho.ext B2 (T (T Bx G5) (Nat.le_of_eq Ka));replace C1 := ho.va (by omega) C1;have q9 := ho.bx Sx (by omega);replace Ft := q9 Ft;replace Gr := q9 Gr;replace Ha := q9 Ha;replace Gy := q9 Gy;replace H4 := q9 H4;replace Gt := q9 Gt;replace Gj := q9 Gj;replace Gi := q9 Gi;clear q9;replace Nm := ho.va (by omega) Nm;replace N8 := N8.turn ho (fun h => absurd h.1 (Nat.not_le_of_lt (Nat.lt_of_lt_of_le Mj Kt)));have B0c := Nat.le_of_eq ho.size.symm;clear ho hk;refine ⟨B2, ?_⟩;refine wV 10 (iv 0) hR B2 ?_;refine we hL hR hK ?_;have Wl := PcsS.pcs N8;have B1y := Ext.refl Xs;exact zl hJ [2, 3, 4, 5] ⟨Pd, Sx, S5, Qn, Ru, Pe, P4, Rf, Sq, rfl, hE, (B2.trans B1y), C1, Ft, Gr, Ha, Gy, H4, Gt, Gj, Gi, V9, We, Nm, Wl, Cx, Dr, Dp, Dg, (T Bx (T G5 (T Me (T Kt (T B05 B0c))))), (T Bx Xh), (T (T Bx (T G5 Me)) (Nat.le_of_eq M0)), (T (T Bx (T G5 (T Me Kt))) Ih), (T (T Bx G5) (Nat.le_of_eq Ka)), Lib.hid (by omega), Lib.hid (by omega), Lib.hid (by omega), Lib.hid (by omega), Lib.hid (by omega), Lib.hid (by omega)⟩
  ·
   refine sn_newS (us := #[iv 4, iv 100, .bool true, sv B1 0 24 24, iv 5, iv 200, .bool false, sv Ma 0 24 24]) (t := 49) (k := 2) (c := 2) (by kernel_rfl) ?_;intro Jq Ba0 Mz B4t hb hbx;have ⟨Ba, Bk, Bf, Bj, Bg, Bc, Bl, Bm⟩ := bq8 hbx;refine mv2 hb hE B2 fun hE B2=>?_;have D7 := hb.size;have G1 := Ba.lt;refine ⟨B2, ?_⟩;refine zw 0 8 hR ?_ ?_
   ·
    refine sc 73 #[iv 7] ((row_c 7 _).mono ?_);rintro e B3e ⟨U6, rfl, Nj, B1o, hb⟩;refine mv9 hb hE B2 Ba Bk Bf Bj Bg Bc Bl fun hE B2 Ba Bk Bf Bj Bg Bc Bl=>?_;replace Bm := Bm.x hb;have Dx := hb.size;have Cj := B1o.va (show Globe.validL (rowL 7) = true by kernel_rfl);have Lc := Cj.lt;refine ⟨_, rfl, B2, ?_⟩;refine zw 4 8 hR ?_ ?_
    ·
     have Xu : PcsAt B3e (some ⟨Jq, 0, none⟩) 2 [p4, p5] := PcsB.at (PcsB.cons (p := p4) (o := 0) (o' := 4) rfl (Ba.1) (Bk.1) (Bf.1) (Bj.1) (AA.ext (aa_q (J7.aa)) (Jl.trans B2)) (PcsB.cons (p := p5) (o := 4) (o' := 8) rfl (Bg.1) (Bc.1) (Bl.1) (Bm.1) (AA.ext (aa_q (Cq.aa)) (Fl.trans B2)) PcsB.nil)) rfl (by omega);refine sc 13 #[iv 1, .agg #[sv U6 0 24 24], sv Jq 0 2 2] (((Build_c (id := 1) _ _ (by omega) (aa_q (Cj.aa)) (Ext.refl _) Xu (Ext.refl _) (hT.ext hE)).mono fun _ _ h => h.eq (by kernel_rfl) rfl (show _ = [p5', p4] by kernel_rfl)).mono ?_);rintro e Z5 ⟨Bar, Ba4, Q9, Q7, P5, R7, rfl, B3i, Vp, B2e, Vf, Yb, hb⟩;refine mv9 hb hE B2 Ba Bk Bf Bj Bg Bc Bl fun hE B2 Ba Bk Bf Bj Bg Bc Bl=>?_;refine mv2 hb Bm Cj fun Bm Cj=>?_;have Jb := hb.size;obtain ⟨Ro, Re, rfl, rfl, L8⟩ := va_of B3i (by kernel_rfl);have Lt := Vp _ rfl;have Uj := L8.lt;have Kh : PcsS (fun k => B3e.heap.size ≤ k ∧ k < Z5.heap.size) Z5 Q7 P5 ([p5', p4]) := PcsS.both B2e;refine ⟨_, rfl, B2, ?_⟩;refine wW 5 (.tuple #[.agg #[iv 1, iv 1, sv Ro Re 24 Q9, .slice Q7 P5 R7], iv 0]) 6 (.agg #[iv 1, iv 1, sv Ro Re 24 Q9, .slice Q7 P5 R7]) hR B2 ?_;refine wV 7 (iv 0) hR B2 ?_;refine wN 8 53 #[iv 0, iv 0, .slice none 0 0, .slice none 0 0] hR ?_;intro Sr B5f Fg B61 hb hbx;have ⟨Fo, H9, Gs, Gp⟩ := bq4 hbx;refine mv12 hb hE B2 Ba Bk Bf Bj Bg Bc Bl Bm Cj L8 fun hE B2 Ba Bk Bf Bj Bg Bc Bl Bm Cj L8=>?_;replace Kh := Kh.ext hb;have B0x := hb.size;have B8k := Fo.lt;refine ⟨B2, ?_⟩;refine wS 9 hR (sn_setK4 (O := Sr) (j := 0) (v0 := iv 1) (v1 := iv 1) (v2 := sv Ro Re 24 Q9) (v3 := .slice Q7 P5 R7) (ex_store (p := pw Sr 0) (v := .agg #[iv 1, iv 1, sv Ro Re 24 Q9, .slice Q7 P5 R7]) rfl (by kernel_rfl) (by kernel_rfl) (st53 Fo.1 Fo.2 H9.1 H9.2 Gs.1 Gs.2 Gp.1 Gp.2)) Fo H9 Gs Gp ?_);intro X5 ho Fo H9 Gs Gp hk;replace hE := ho.ext hE (by omega);replace B2 := ho.ext B2 (by omega);have q9 := ho.bx Jq (by omega);replace Ba := q9 Ba;replace Bk := q9 Bk;replace Bf := q9 Bf;replace Bj := q9 Bj;replace Bg := q9 Bg;replace Bc := q9 Bc;replace Bl := q9 Bl;replace Bm := q9 Bm;clear q9;replace Cj := ho.va (by omega) Cj;replace L8 := ho.va (by omega) L8;replace Kh := Kh.turn ho (fun h => absurd h.2 (Nat.not_lt_of_le (Nat.le_of_eq Fg)));have B42 := Nat.le_of_eq ho.size.symm;clear ho hk;refine ⟨B2, ?_⟩;refine wV 10 (iv 0) hR B2 ?_;refine we hL hR hK ?_;have Wy := PcsS.pcs Kh;have B21 := Ext.refl X5;exact zl hJ [2, 3, 4, 5] ⟨U6, Jq, Ro, Re, Q9, Q7, P5, R7, Sr, rfl, hE, (B2.trans B21), Cj, Ba, Bk, Bf, Bj, Bg, Bc, Bl, Bm, Vf, Yb, L8, Wy, Fo, H9, Gs, Gp, (T Bx (T D7 (T Dx (T Jb (T B0x B42))))), (T (T Bx D7) Nj), (T Bx (Nat.le_of_eq Mz)), (T (T Bx (T D7 Dx)) Lt), (by omega), Lib.hid (by omega), Lib.hid (by omega), Lib.hid (by omega), Lib.hid (by omega), Lib.hid (by omega), Lib.hid (by omega)⟩
    ·
     refine sw 53 #[iv 0, iv 0, .slice none 0 0, .slice none 0 0] ?_;intro U4 Z4 Ie B5q hb hbx;have ⟨E6, El, F6, Ek⟩ := bq4 hbx;refine mv9 hb hE B2 Ba Bk Bf Bj Bg Bc Bl fun hE B2 Ba Bk Bf Bj Bg Bc Bl=>?_;refine mv2 hb Bm Cj fun Bm Cj=>?_;have Nk := hb.size;have Rh := E6.lt;refine ⟨B2, ?_⟩;have Wp : PcsAt Z4 (some ⟨Jq, 0, none⟩) 2 [p4, p5] := PcsB.at (PcsB.cons (p := p4) (o := 0) (o' := 4) rfl (Ba.1) (Bk.1) (Bf.1) (Bj.1) (AA.ext (aa_q (J7.aa)) (Jl.trans B2)) (PcsB.cons (p := p5) (o := 4) (o' := 8) rfl (Bg.1) (Bc.1) (Bl.1) (Bm.1) (AA.ext (aa_q (Cq.aa)) (Fl.trans B2)) PcsB.nil)) rfl (by omega);refine wC 4 13 #[iv 1, .agg #[sv U6 0 24 24], sv Jq 0 2 2] hR (((Build_c (id := 1) _ _ (by omega) (aa_q (Cj.aa)) (Ext.refl _) Wp (Ext.refl _) (hT.ext hE)).mono fun _ _ h => h.eq (by kernel_rfl) rfl (show _ = [p5', p4] by kernel_rfl)).mono ?_);rintro e Uy ⟨B9i, B9t, Rn, Q3, Pb, Ri, rfl, B3l, Vx, B2z, Xq, Vs, hb⟩;refine mv12 hb hE B2 Ba Bk Bf Bj Bg Bc Bl Bm Cj E6 fun hE B2 Ba Bk Bf Bj Bg Bc Bl Bm Cj E6=>?_;refine mv3 hb El F6 Ek fun El F6 Ek=>?_;have Yq := hb.size;obtain ⟨Ry, S4, rfl, rfl, Nc⟩ := va_of B3l (by kernel_rfl);have It := Vx _ rfl;have B83 := Nc.lt;have Mq : PcsS (fun k => Z4.heap.size ≤ k ∧ k < Uy.heap.size) Uy Q3 Pb ([p5', p4]) := PcsS.both B2z;refine ⟨_, rfl, B2, ?_⟩;refine wW 5 (.tuple #[.agg #[iv 1, iv 1, sv Ry S4 24 Rn, .slice Q3 Pb Ri], iv 0]) 6 (.agg #[iv 1, iv 1, sv Ry S4 24 Rn, .slice Q3 Pb Ri]) hR B2 ?_;refine wV 7 (iv 0) hR B2 ?_;refine wS 9 hR (sn_setK4 (O := U4) (j := 0) (v0 := iv 1) (v1 := iv 1) (v2 := sv Ry S4 24 Rn) (v3 := .slice Q3 Pb Ri) (ex_store (p := pw U4 0) (v := .agg #[iv 1, iv 1, sv Ry S4 24 Rn, .slice Q3 Pb Ri]) rfl (by kernel_rfl) (by kernel_rfl) (st53 E6.1 E6.2 El.1 El.2 F6.1 F6.2 Ek.1 Ek.2)) E6 El F6 Ek ?_);intro Wa ho E6 El F6 Ek hk;replace hE := ho.ext hE (by omega);replace B2 := ho.ext B2 (T (T Bx (T D7 Dx)) (Nat.le_of_eq Ie));have q9 := ho.bx Jq (by omega);replace Ba := q9 Ba;replace Bk := q9 Bk;replace Bf := q9 Bf;replace Bj := q9 Bj;replace Bg := q9 Bg;replace Bc := q9 Bc;replace Bl := q9 Bl;replace Bm := q9 Bm;clear q9;replace Cj := ho.va (by omega) Cj;replace Nc := ho.va (by omega) Nc;replace Mq := Mq.turn ho (fun h => absurd h.1 (Nat.not_le_of_lt (Nat.lt_of_lt_of_le Rh (Nat.le_refl _))));have B0e := Nat.le_of_eq ho.size.symm;clear ho hk;refine ⟨B2, ?_⟩;refine wV 10 (iv 0) hR B2 ?_;refine we hL hR hK ?_;have Ye := PcsS.pcs Mq;have B1s := Ext.refl Wa;exact zl hJ [2, 3, 4, 5] ⟨U6, Jq, Ry, S4, Rn, Q3, Pb, Ri, U4, rfl, hE, (B2.trans B1s), Cj, Ba, Bk, Bf, Bj, Bg, Bc, Bl, Bm, Xq, Vs, Nc, Ye, E6, El, F6, Ek, (T Bx (T D7 (T Dx (T Nk (T Yq B0e))))), (T (T Bx D7) Nj), (T Bx (Nat.le_of_eq Mz)), (T (T Bx (T D7 (T Dx Nk))) It), (T (T Bx (T D7 Dx)) (Nat.le_of_eq Ie)), Lib.hid (by omega), Lib.hid (by omega), Lib.hid (by omega), Lib.hid (by omega), Lib.hid (by omega), Lib.hid (by omega)⟩
   ·
    refine sw 53 #[iv 0, iv 0, .slice none 0 0, .slice none 0 0] ?_;intro Ss Bbo K2 B5e hb hbx;have ⟨D1, De, Dn, Dd⟩ := bq4 hbx;refine mv9 hb hE B2 Ba Bk Bf Bj Bg Bc Bl fun hE B2 Ba Bk Bf Bj Bg Bc Bl=>?_;replace Bm := Bm.x hb;have Md := hb.size;have Mb := D1.lt;refine ⟨B2, ?_⟩;refine wC 0 73 #[iv 7] hR ((row_c 7 _).mono ?_);rintro e B40 ⟨B0n, rfl, P0, Zv, hb⟩;refine mv12 hb hE B2 Ba Bk Bf Bj Bg Bc Bl Bm D1 De fun hE B2 Ba Bk Bf Bj Bg Bc Bl Bm D1 De=>?_;refine mv2 hb Dn Dd fun Dn Dd=>?_;have Kw := hb.size;have Hw := Zv.va (show Globe.validL (rowL 7) = true by kernel_rfl);have B0m := Hw.lt;refine ⟨_, rfl, B2, ?_⟩;have Yl : PcsAt B40 (some ⟨Jq, 0, none⟩) 2 [p4, p5] := PcsB.at (PcsB.cons (p := p4) (o := 0) (o' := 4) rfl (Ba.1) (Bk.1) (Bf.1) (Bj.1) (AA.ext (aa_q (J7.aa)) (Jl.trans B2)) (PcsB.cons (p := p5) (o := 4) (o' := 8) rfl (Bg.1) (Bc.1) (Bl.1) (Bm.1) (AA.ext (aa_q (Cq.aa)) (Fl.trans B2)) PcsB.nil)) rfl (by omega);refine wC 4 13 #[iv 1, .agg #[sv B0n 0 24 24], sv Jq 0 2 2] hR (((Build_c (id := 1) _ _ (by omega) (aa_q (Hw.aa)) (Ext.refl _) Yl (Ext.refl _) (hT.ext hE)).mono fun _ _ h => h.eq (by kernel_rfl) rfl (show _ = [p5', p4] by kernel_rfl)).mono ?_);rintro e Yf ⟨Bbe, Bah, Rs, Q4, Pg, Qc, rfl, B1f, V6, B2a, Vc, W6, hb⟩;refine mv12 hb hE B2 Ba Bk Bf Bj Bg Bc Bl Bm D1 De fun hE B2 Ba Bk Bf Bj Bg Bc Bl Bm D1 De=>?_;refine mv3 hb Dn Dd Hw fun Dn Dd Hw=>?_;have B1u := hb.size;obtain ⟨Rq, Sg, rfl, rfl, Nu⟩ := va_of B1f (by kernel_rfl);have Iw := V6 _ rfl;have B80 := Nu.lt;have N2 : PcsS (fun k => B40.heap.size ≤ k ∧ k < Yf.heap.size) Yf Q4 Pg ([p5', p4]) := PcsS.both B2a;refine ⟨_, rfl, B2, ?_⟩;refine wW 5 (.tuple #[.agg #[iv 1, iv 1, sv Rq Sg 24 Rs, .slice Q4 Pg Qc], iv 0]) 6 (.agg #[iv 1, iv 1, sv Rq Sg 24 Rs, .slice Q4 Pg Qc]) hR B2 ?_;refine wV 7 (iv 0) hR B2 ?_;refine wS 9 hR (sn_setK4 (O := Ss) (j := 0) (v0 := iv 1) (v1 := iv 1) (v2 := sv Rq Sg 24 Rs) (v3 := .slice Q4 Pg Qc) (ex_store (p := pw Ss 0) (v := .agg #[iv 1, iv 1, sv Rq Sg 24 Rs, .slice Q4 Pg Qc]) rfl (by kernel_rfl) (by kernel_rfl) (st53 D1.1 D1.2 De.1 De.2 Dn.1 Dn.2 Dd.1 Dd.2)) D1 De Dn Dd ?_);intro Y4 ho D1 De Dn Dd hk;replace hE := ho.ext hE (by omega);replace B2 := ho.ext B2 (T (T Bx D7) (Nat.le_of_eq K2));have q9 := ho.bx Jq (by omega);replace Ba := q9 Ba;replace Bk := q9 Bk;replace Bf := q9 Bf;replace Bj := q9 Bj;replace Bg := q9 Bg;replace Bc := q9 Bc;replace Bl := q9 Bl;replace Bm := q9 Bm;clear q9;replace Hw := ho.va (by omega) Hw;replace Nu := ho.va (by omega) Nu;replace N2 := N2.turn ho (fun h => absurd h.1 (Nat.not_le_of_lt (Nat.lt_of_lt_of_le Mb Kw)));have B0s := Nat.le_of_eq ho.size.symm;clear ho hk;refine ⟨B2, ?_⟩;refine wV 10 (iv 0) hR B2 ?_;refine we hL hR hK ?_;have Yg := PcsS.pcs N2;have B2w := Ext.refl Y4;exact zl hJ [2, 3, 4, 5] ⟨B0n, Jq, Rq, Sg, Rs, Q4, Pg, Qc, Ss, rfl, hE, (B2.trans B2w), Hw, Ba, Bk, Bf, Bj, Bg, Bc, Bl, Bm, Vc, W6, Nu, Yg, D1, De, Dn, Dd, (T Bx (T D7 (T Md (T Kw (T B1u B0s))))), (T (T Bx (T D7 Md)) P0), (T Bx (Nat.le_of_eq Mz)), (T (T Bx (T D7 (T Md Kw))) Iw), (T (T Bx D7) (Nat.le_of_eq K2)), Lib.hid (by omega), Lib.hid (by omega), Lib.hid (by omega), Lib.hid (by omega), Lib.hid (by omega), Lib.hid (by omega)⟩
  ·
   refine sw 53 #[iv 0, iv 0, .slice none 0 0, .slice none 0 0] ?_;intro Mm B9n J4 B4n hb hbx;have ⟨Bp, Br, Bw, Bu⟩ := bq4 hbx;refine mv2 hb hE B2 fun hE B2=>?_;have Ji := hb.size;have F7 := Bp.lt;refine ⟨B2, ?_⟩;refine zw 0 3 hR ?_ ?_
   ·
    refine sc 73 #[iv 7] ((row_c 7 _).mono ?_);rintro e Bb9 ⟨Zg, rfl, Qb, B3w, hb⟩;refine mv6 hb hE B2 Bp Br Bw Bu fun hE B2 Bp Br Bw Bu=>?_;have Jj := hb.size;have Fx := B3w.va (show Globe.validL (rowL 7) = true by kernel_rfl);have Ui := Fx.lt;refine ⟨_, rfl, B2, ?_⟩;refine wS 3 hR (sn_newS (us := #[iv 4, iv 100, .bool true, sv B1 0 24 24, iv 5, iv 200, .bool false, sv Ma 0 24 24]) (t := 49) (k := 2) (c := 2) (by kernel_rfl) ?_);intro U1 B0t Lf B4w hb hbx;have ⟨Fq, H0, Gn, Gx, Gv, Hc, H5, Gw⟩ := bq8 hbx;refine mv7 hb hE B2 Bp Br Bw Bu Fx fun hE B2 Bp Br Bw Bu Fx=>?_;have La := hb.size;have B3x := Fq.lt;refine ⟨B2, ?_⟩;have Y2 : PcsAt B0t (some ⟨U1, 0, none⟩) 2 [p4, p5] := PcsB.at (PcsB.cons (p := p4) (o := 0) (o' := 4) rfl (Fq.1) (H0.1) (Gn.1) (Gx.1) (AA.ext (aa_q (J7.aa)) (Jl.trans B2)) (PcsB.cons (p := p5) (o := 4) (o' := 8) rfl (Gv.1) (Hc.1) (H5.1) (Gw.1) (AA.ext (aa_q (Cq.aa)) (Fl.trans B2)) PcsB.nil)) rfl (by omega);refine wC 4 13 #[iv 1, .agg #[sv Zg 0 24 24], sv U1 0 2 2] hR (((Build_c (id := 1) _ _ (by omega) (aa_q (Fx.aa)) (Ext.refl _) Y2 (Ext.refl _) (hT.ext hE)).mono fun _ _ h => h.eq (by kernel_rfl) rfl (show _ = [p5', p4] by kernel_rfl)).mono ?_);rintro e Ux ⟨Baf, Ba8, Ra, Pz, Ps, S3, rfl, B3t, Wv, Zb, Y1, Vl, hb⟩;refine mv12 hb hE B2 Bp Br Bw Bu Fx Fq H0 Gn Gx Gv fun hE B2 Bp Br Bw Bu Fx Fq H0 Gn Gx Gv=>?_;refine mv3 hb Hc H5 Gw fun Hc H5 Gw=>?_;have B12 := hb.size;obtain ⟨S7, Qr, rfl, rfl, Nn⟩ := va_of B3t (by kernel_rfl);have Ij := Wv _ rfl;have B6e := Nn.lt;have Na : PcsS (fun k => B0t.heap.size ≤ k ∧ k < Ux.heap.size) Ux Pz Ps ([p5', p4]) := PcsS.both Zb;refine ⟨_, rfl, B2, ?_⟩;refine wW 5 (.tuple #[.agg #[iv 1, iv 1, sv S7 Qr 24 Ra, .slice Pz Ps S3], iv 0]) 6 (.agg #[iv 1, iv 1, sv S7 Qr 24 Ra, .slice Pz Ps S3]) hR B2 ?_;refine wV 7 (iv 0) hR B2 ?_;refine wS 9 hR (sn_setK4 (O := Mm) (j := 0) (v0 := iv 1) (v1 := iv 1) (v2 := sv S7 Qr 24 Ra) (v3 := .slice Pz Ps S3) (ex_store (p := pw Mm 0) (v := .agg #[iv 1, iv 1, sv S7 Qr 24 Ra, .slice Pz Ps S3]) rfl (by kernel_rfl) (by kernel_rfl) (st53 Bp.1 Bp.2 Br.1 Br.2 Bw.1 Bw.2 Bu.1 Bu.2)) Bp Br Bw Bu ?_);intro Vv ho Bp Br Bw Bu hk;replace hE := ho.ext hE (by omega);replace B2 := ho.ext B2 (T Bx (Nat.le_of_eq J4));replace Fx := ho.va (by omega) Fx;have q9 := ho.bx U1 (by omega);replace Fq := q9 Fq;replace H0 := q9 H0;replace Gn := q9 Gn;replace Gx := q9 Gx;replace Gv := q9 Gv;replace Hc := q9 Hc;replace H5 := q9 H5;replace Gw := q9 Gw;clear q9;replace Nn := ho.va (by omega) Nn;replace Na := Na.turn ho (fun h => absurd h.1 (Nat.not_le_of_lt (Nat.lt_of_lt_of_le F7 (T Jj La))));have B1d := Nat.le_of_eq ho.size.symm;clear ho hk;refine ⟨B2, ?_⟩;refine wV 10 (iv 0) hR B2 ?_;refine we hL hR hK ?_;have Xp := PcsS.pcs Na;have Yt := Ext.refl Vv;exact zl hJ [2, 3, 4, 5] ⟨Zg, U1, S7, Qr, Ra, Pz, Ps, S3, Mm, rfl, hE, (B2.trans Yt), Fx, Fq, H0, Gn, Gx, Gv, Hc, H5, Gw, Y1, Vl, Nn, Xp, Bp, Br, Bw, Bu, (T Bx (T Ji (T Jj (T La (T B12 B1d))))), (T (T Bx Ji) Qb), (T (T Bx (T Ji Jj)) (Nat.le_of_eq Lf)), (T (T Bx (T Ji (T Jj La))) Ij), (T Bx (Nat.le_of_eq J4)), Lib.hid (by omega), Lib.hid (by omega), Lib.hid (by omega), Lib.hid (by omega), Lib.hid (by omega), Lib.hid (by omega)⟩
   ·
    refine sn_newS (us := #[iv 4, iv 100, .bool true, sv B1 0 24 24, iv 5, iv 200, .bool false, sv Ma 0 24 24]) (t := 49) (k := 2) (c := 2) (by kernel_rfl) ?_;intro U2 Bax N1 B4m hb hbx;have ⟨E4, En, Eg, Eo, Ep, Ev, Er, Ew⟩ := bq8 hbx;refine mv6 hb hE B2 Bp Br Bw Bu fun hE B2 Bp Br Bw Bu=>?_;have Jd := hb.size;have Uk := E4.lt;refine ⟨B2, ?_⟩;refine wC 0 73 #[iv 7] hR ((row_c 7 _).mono ?_);rintro e B17 ⟨B2o, rfl, Ns, B30, hb⟩;refine mv12 hb hE B2 Bp Br Bw Bu E4 En Eg Eo Ep Ev fun hE B2 Bp Br Bw Bu E4 En Eg Eo Ep Ev=>?_;refine mv2 hb Er Ew fun Er Ew=>?_;have Kz := hb.size;have I8 := B30.va (show Globe.validL (rowL 7) = true by kernel_rfl);have B0g := I8.lt;refine ⟨_, rfl, B2, ?_⟩;have Wd : PcsAt B17 (some ⟨U2, 0, none⟩) 2 [p4, p5] := PcsB.at (PcsB.cons (p := p4) (o := 0) (o' := 4) rfl (E4.1) (En.1) (Eg.1) (Eo.1) (AA.ext (aa_q (J7.aa)) (Jl.trans B2)) (PcsB.cons (p := p5) (o := 4) (o' := 8) rfl (Ep.1) (Ev.1) (Er.1) (Ew.1) (AA.ext (aa_q (Cq.aa)) (Fl.trans B2)) PcsB.nil)) rfl (by omega);refine wC 4 13 #[iv 1, .agg #[sv B2o 0 24 24], sv U2 0 2 2] hR (((Build_c (id := 1) _ _ (by omega) (aa_q (I8.aa)) (Ext.refl _) Wd (Ext.refl _) (hT.ext hE)).mono fun _ _ h => h.eq (by kernel_rfl) rfl (show _ = [p5', p4] by kernel_rfl)).mono ?_);rintro e Wk ⟨Bb2, Bb8, R5, Pf, Pk, Qa, rfl, B0l, X4, B2b, Xe, Uz, hb⟩;refine mv12 hb hE B2 Bp Br Bw Bu E4 En Eg Eo Ep Ev fun hE B2 Bp Br Bw Bu E4 En Eg Eo Ep Ev=>?_;refine mv3 hb Er Ew I8 fun Er Ew I8=>?_;have B0y := hb.size;obtain ⟨Qk, Qe, rfl, rfl, Np⟩ := va_of B0l (by kernel_rfl);have Ip := X4 _ rfl;have B6f := Np.lt;have Mx : PcsS (fun k => B17.heap.size ≤ k ∧ k < Wk.heap.size) Wk Pf Pk ([p5', p4]) := PcsS.both B2b;refine ⟨_, rfl, B2, ?_⟩;refine wW 5 (.tuple #[.agg #[iv 1, iv 1, sv Qk Qe 24 R5, .slice Pf Pk Qa], iv 0]) 6 (.agg #[iv 1, iv 1, sv Qk Qe 24 R5, .slice Pf Pk Qa]) hR B2 ?_;refine wV 7 (iv 0) hR B2 ?_;refine wS 9 hR (sn_setK4 (O := Mm) (j := 0) (v0 := iv 1) (v1 := iv 1) (v2 := sv Qk Qe 24 R5) (v3 := .slice Pf Pk Qa) (ex_store (p := pw Mm 0) (v := .agg #[iv 1, iv 1, sv Qk Qe 24 R5, .slice Pf Pk Qa]) rfl (by kernel_rfl) (by kernel_rfl) (st53 Bp.1 Bp.2 Br.1 Br.2 Bw.1 Bw.2 Bu.1 Bu.2)) Bp Br Bw Bu ?_);intro Xa ho Bp Br Bw Bu hk;replace hE := ho.ext hE (by omega);replace B2 := ho.ext B2 (T Bx (Nat.le_of_eq J4));have q9 := ho.bx U2 (by omega);replace E4 := q9 E4;replace En := q9 En;replace Eg := q9 Eg;replace Eo := q9 Eo;replace Ep := q9 Ep;replace Ev := q9 Ev;replace Er := q9 Er;replace Ew := q9 Ew;clear q9;replace I8 := ho.va (by omega) I8;replace Np := ho.va (by omega) Np;replace Mx := Mx.turn ho (fun h => absurd h.1 (Nat.not_le_of_lt (Nat.lt_of_lt_of_le F7 (T Jd Kz))));have Zq := Nat.le_of_eq ho.size.symm;clear ho hk;refine ⟨B2, ?_⟩;refine wV 10 (iv 0) hR B2 ?_;refine we hL hR hK ?_;have Xk := PcsS.pcs Mx;have B3g := Ext.refl Xa;exact zl hJ [2, 3, 4, 5] ⟨B2o, U2, Qk, Qe, R5, Pf, Pk, Qa, Mm, rfl, hE, (B2.trans B3g), I8, E4, En, Eg, Eo, Ep, Ev, Er, Ew, Xe, Uz, Np, Xk, Bp, Br, Bw, Bu, (T Bx (T Ji (T Jd (T Kz (T B0y Zq))))), (T (T Bx (T Ji Jd)) Ns), (T (T Bx Ji) (Nat.le_of_eq N1)), (T (T Bx (T Ji (T Jd Kz))) Ip), (T Bx (Nat.le_of_eq J4)), Lib.hid (by omega), Lib.hid (by omega), Lib.hid (by omega), Lib.hid (by omega), Lib.hid (by omega), Lib.hid (by omega)⟩
 ·
  clear hE B2;rintro L ws Su ⟨Pd, Kk, Jo, Kl, Ko, Kc, K3, Kn, J2, rfl, hE, B2, C1, C8, Co, Cn, Cg, Ci, Cm, Cd, Cf, Uh, Qj, Io, Jk, Cv, Db, Da, D9, Em, B7d, B7j, B7b, B7f, B6m, B7g, B6n, B8v, B8z, B8l⟩;have E8 := Ext.refl Su;have B8q := C1.lt;have B7o := C8.lt;have B6s := Io.lt;have B8g := Cv.lt;refine zq (zc (zp (pU (.agg #[iv 1, iv 1, sv Jo Kl 24 Ko, .slice Kc K3 Kn]) (xl (ld53 (Cv.1) (Db.1) (Da.1) (D9.1))) ?_)));refine pU (.agg #[iv 6, iv 300, .bool true, sv V1 0 24 24]) (xl (ld49 (G8.c (B2.trans E8)) (I6.c (B2.trans E8)) (Ia.c (B2.trans E8)) (Ic.c (B2.trans E8)))) ?_;refine pS (sc 36 #[.agg #[iv 1, iv 1, sv Jo Kl 24 Ko, .slice Kc K3 Kn], .agg #[iv 6, iv 300, .bool true, sv V1 0 24 24]] (((Next_c (id := 1) (ver := 1) (x := p6) _ _ (by omega) (aa_q (Io.aa)) (Ext.refl _) (Jk) (Ext.refl _) (hT.ext hE) Qj (aa_q (K4.aa)) (B2.trans E8)).mono fun _ _ h => h.eq (by kernel_rfl) (show _ = (2 : Int) by kernel_rfl) (show _ = [p5', p4', p6] by kernel_rfl)).mono ?_));rintro e Yw ⟨B9e, Bb6, Hj, Fy, Fm, Hk, rfl, B07, Xd, Zh, B5g, B5c, hb⟩;refine mv2 hb hE E8 fun hE E8=>?_;have Ec := hb.size;obtain ⟨Hg, Hh, rfl, rfl, Gd⟩ := va_of B07 (by kernel_rfl);have B47 := Xd _ rfl;have B1r := Gd.lt;have Cw : PcsS (fun k => Su.heap.size ≤ k ∧ k < Yw.heap.size) Yw Fy Fm ([p5', p4', p6]) := PcsS.both Zh;refine ⟨_, rfl, pD (.tuple #[.agg #[iv 1, iv 2, sv Hg Hh 24 Hj, .slice Fy Fm Hk], iv 0]) (.agg #[iv 1, iv 2, sv Hg Hh 24 Hj, .slice Fy Fm Hk]) ?_⟩;refine pT (iv 0) ?_;refine pS (sw 53 #[iv 0, iv 0, .slice none 0 0, .slice none 0 0] ?_);intro Ib B5r Lu B4p hb hbx;have ⟨Ct, D0, Cz, D2⟩ := bq4 hbx;refine mv4 hb hE E8 Gd Cw fun hE E8 Gd Cw=>?_;have Fh := hb.size;have B8s := Ct.lt;refine pP (zG Ib (iv 1) (iv 2) (sv Hg Hh 24 Hj) (.slice Fy Fm Hk) (st53 Ct.1 Ct.2 D0.1 D0.2 Cz.1 Cz.2 D2.1 D2.2) Ct D0 Cz D2 ?_);intro Ll ho Ct D0 Cz D2 hk;replace hE := ho.ext hE (by omega);replace E8 := ho.ext E8 (T Ec (Nat.le_of_eq Lu));replace Gd := ho.va (by omega) Gd;replace Cw := Cw.turn ho (fun h => absurd h.2 (Nat.not_lt_of_le (Nat.le_of_eq Lu)));have Fk := Nat.le_of_eq ho.size.symm;clear ho hk;refine pT (iv 0) ?_;refine pl_nil (qw_then ?_);refine cw_seq ?_;have B0 := Ext.refl Ll;refine cw_join (fun ws' Y => ∃ J9 G4 : Nat, ∃ Dv Fe Fi : Nat, ∃ E7 : Option Addr, ∃ E9 Ff Fv : Nat, ws' = [(3, pw Js 0), (4, pw J2 0), (5, iv 0), (6, pw Ib 0), (7, iv 0), (8, pw Fv 0), (9, iv 0)] ∧ Ext w Y ∧ Ext Ll Y ∧ PcsAt Y Fy Fm ([p5', p4', p6]) ∧ VA Y J9 0 (rowL 7) ∧ BoxAt Y G4 0 (iv 5) ∧ BoxAt Y G4 1 (iv 200) ∧ BoxAt Y G4 2 (.bool false) ∧ BoxAt Y G4 3 (sv Ma 0 24 24) ∧ E9 ≤ Ff ∧ Pl E7 ∧ VA Y Dv Fe (rowL 7) ∧ PcsAt Y E7 E9 ([p5]) ∧ BoxAt Y Fv 0 (iv 1) ∧ BoxAt Y Fv 1 (iv 1) ∧ BoxAt Y Fv 2 (sv Dv Fe 24 Fi) ∧ BoxAt Y Fv 3 (.slice E7 E9 Ff) ∧ Ll.heap.size ≤ Y.heap.size ∧ Ll.heap.size ≤ J9 ∧ Ll.heap.size ≤ G4 ∧ Ll.heap.size ≤ Dv ∧ Ll.heap.size ≤ Fv ∧ Hid (J9 ≠ G4) ∧ Hid (J9 ≠ Dv) ∧ Hid (J9 ≠ Fv) ∧ Hid (G4 ≠ Dv) ∧ Hid (G4 ≠ Fv) ∧ Hid (Dv ≠ Fv)) (fun hJ => ?_) ?_
  ·
   have B2j := B2.trans E8;have B7 := Fl.trans B2j;refine dE Tz42_1 (fun w' => Ext X24 w') (Ext.drew (B7.trans B0)) (fun ops Q Bbr hb hL hR hK => ?_);refine mv2 hb hE B0 fun hE B0=>?_;have B6 := hb.size;refine wM 1 (.agg #[iv 5, iv 200, .bool false, sv Ma 0 24 24]) hR (fun w hS => ld49 (Gf.c hS) (Ig.c hS) (I5.c hS) (Hz.c hS)) (B7.trans B0) ?_;refine wd_three 0 2 7 hR rfl rfl rfl (by kernel_rfl) (by kernel_rfl) (by kernel_rfl) (by kernel_rfl) (by kernel_rfl) ?_ ?_ ?_
   ·
    refine sc 73 #[iv 7] ((row_c 7 _).mono ?_);rintro e Bab ⟨J9, rfl, Qg, B0v, hb⟩;refine mv2 hb hE B0 fun hE B0=>?_;have D8 := hb.size;have Bq := B0v.va (show Globe.validL (rowL 7) = true by kernel_rfl);have G0 := Bq.lt;refine ⟨_, rfl, B7.trans B0, ?_⟩;refine zw 2 7 hR ?_ ?_
    ·
     refine sn_newS (us := #[iv 5, iv 200, .bool false, sv Ma 0 24 24]) (t := 49) (k := 1) (c := 1) (by kernel_rfl) ?_;intro G4 B3o Li B5j hb hbx;have ⟨C0, C3, C4, C2⟩ := bq4 hbx;refine mv3 hb hE B0 Bq fun hE B0 Bq=>?_;have Dy := hb.size;have L5 := C0.lt;refine ⟨(B7.trans B0), ?_⟩;refine zw 3 7 hR ?_ ?_
     ·
      have Vh : PcsAt B3o (some ⟨G4, 0, none⟩) 1 [p5] := PcsB.at (PcsB.cons (p := p5) (o := 0) (o' := 4) rfl (C0.1) (C3.1) (C4.1) (C2.1) (AA.ext (aa_q (Cq.aa)) (B7.trans B0)) PcsB.nil) rfl (by omega);refine sc 13 #[iv 1, .agg #[sv J9 0 24 24], sv G4 0 1 1] (((Build_c (id := 1) _ _ (by omega) (aa_q (Bq.aa)) (Ext.refl _) Vh (Ext.refl _) (hT.ext hE)).mono fun _ _ h => h.eq (by kernel_rfl) rfl (show _ = [p5] by kernel_rfl)).mono ?_);rintro e Za ⟨Ban, Ba9, Fi, E7, E9, Ff, rfl, B06, Wf, B3h, Se, Ki, hb⟩;refine mv7 hb hE B0 Bq C0 C3 C4 C2 fun hE B0 Bq C0 C3 C4 C2=>?_;have Jc := hb.size;obtain ⟨Dv, Fe, rfl, rfl, Eb⟩ := va_of B06 (by kernel_rfl);have Lj := Wf _ rfl;have Um := Eb.lt;have Kg : PcsS (fun k => B3o.heap.size ≤ k ∧ k < Za.heap.size) Za E7 E9 ([p5]) := PcsS.both B3h;have hS := B7.trans B0;refine ⟨_, rfl, hS, ?_⟩;refine wW 4 (.tuple #[.agg #[iv 1, iv 1, sv Dv Fe 24 Fi, .slice E7 E9 Ff], iv 0]) 5 (.agg #[iv 1, iv 1, sv Dv Fe 24 Fi, .slice E7 E9 Ff]) hR hS ?_;refine wV 6 (iv 0) hR hS ?_;refine wN 7 53 #[iv 0, iv 0, .slice none 0 0, .slice none 0 0] hR ?_;intro Fv B5k Fa B5m hb hbx;have ⟨Cb, Cs, Cu, Cr⟩ := bq4 hbx;refine mv9 hb hE B0 Bq C0 C3 C4 C2 Eb Kg fun hE B0 Bq C0 C3 C4 C2 Eb Kg=>?_;have B1v := hb.size;have B86 := Cb.lt;refine ⟨(B7.trans B0), ?_⟩;refine wS 8 hR (sn_setK4 (O := Fv) (j := 0) (v0 := iv 1) (v1 := iv 1) (v2 := sv Dv Fe 24 Fi) (v3 := .slice E7 E9 Ff) (ex_store (p := pw Fv 0) (v := .agg #[iv 1, iv 1, sv Dv Fe 24 Fi, .slice E7 E9 Ff]) rfl (by kernel_rfl) (by kernel_rfl) (st53 Cb.1 Cb.2 Cs.1 Cs.2 Cu.1 Cu.2 Cr.1 Cr.2)) Cb Cs Cu Cr ?_);intro Wq ho Cb Cs Cu Cr hk;replace hE := ho.ext hE (by omega);replace B0 := ho.ext B0 (by omega);replace Bq := ho.va (by omega) Bq;have q9 := ho.bx G4 (by omega);replace C0 := q9 C0;replace C3 := q9 C3;replace C4 := q9 C4;replace C2 := q9 C2;clear q9;replace Eb := ho.va (by omega) Eb;replace Kg := Kg.turn ho (fun h => absurd h.2 (Nat.not_lt_of_le (Nat.le_of_eq Fa)));have B3v := Nat.le_of_eq ho.size.symm;clear ho hk;refine ⟨(B7.trans B0), ?_⟩;refine wV 9 (iv 0) hR (B7.trans B0) ?_;refine we hL hR hK ?_;have Qf := PcsS.pcs (Cw.ext B0);have B0b := Ext.refl Wq;have Fw := PcsS.pcs Kg;exact zl hJ [3, 4, 5, 6, 7, 8, 9] ⟨J9, G4, Dv, Fe, Fi, E7, E9, Ff, Fv, rfl, hE, (B0.trans B0b), Qf, Bq, C0, C3, C4, C2, Se, Ki, Eb, Fw, Cb, Cs, Cu, Cr, (T B6 (T D8 (T Dy (T Jc (T B1v B3v))))), (T B6 Qg), (T (T B6 D8) (Nat.le_of_eq Li)), (T (T B6 (T D8 Dy)) Lj), (by omega), Lib.hid (by omega), Lib.hid (by omega), Lib.hid (by omega), Lib.hid (by omega), Lib.hid (by omega), Lib.hid (by omega)⟩
     ·
      refine sw 53 #[iv 0, iv 0, .slice none 0 0, .slice none 0 0] ?_;intro Sz B25 I4 B5z hb hbx;have ⟨E1, Eh, F4, F9⟩ := bq4 hbx;refine mv7 hb hE B0 Bq C0 C3 C4 C2 fun hE B0 Bq C0 C3 C4 C2=>?_;have Nl := hb.size;have Qd := E1.lt;refine ⟨(B7.trans B0), ?_⟩;have Vu : PcsAt B25 (some ⟨G4, 0, none⟩) 1 [p5] := PcsB.at (PcsB.cons (p := p5) (o := 0) (o' := 4) rfl (C0.1) (C3.1) (C4.1) (C2.1) (AA.ext (aa_q (Cq.aa)) (B7.trans B0)) PcsB.nil) rfl (by omega);refine wC 3 13 #[iv 1, .agg #[sv J9 0 24 24], sv G4 0 1 1] hR (((Build_c (id := 1) _ _ (by omega) (aa_q (Bq.aa)) (Ext.refl _) Vu (Ext.refl _) (hT.ext hE)).mono fun _ _ h => h.eq (by kernel_rfl) rfl (show _ = [p5] by kernel_rfl)).mono ?_);rintro e Y9 ⟨Bb0, Bae, Qw, Pp, Q6, Qy, rfl, B2c, X3, Yp, Vw, Xb, hb⟩;refine mv9 hb hE B0 Bq C0 C3 C4 C2 E1 Eh fun hE B0 Bq C0 C3 C4 C2 E1 Eh=>?_;refine mv2 hb F4 F9 fun F4 F9=>?_;have B1x := hb.size;obtain ⟨Qo, Qp, rfl, rfl, Nd⟩ := va_of B2c (by kernel_rfl);have Iq := X3 _ rfl;have B6c := Nd.lt;have N0 : PcsS (fun k => B25.heap.size ≤ k ∧ k < Y9.heap.size) Y9 Pp Q6 ([p5]) := PcsS.both Yp;have hS := B7.trans B0;refine ⟨_, rfl, hS, ?_⟩;refine wW 4 (.tuple #[.agg #[iv 1, iv 1, sv Qo Qp 24 Qw, .slice Pp Q6 Qy], iv 0]) 5 (.agg #[iv 1, iv 1, sv Qo Qp 24 Qw, .slice Pp Q6 Qy]) hR hS ?_;refine wV 6 (iv 0) hR hS ?_;refine wS 8 hR (sn_setK4 (O := Sz) (j := 0) (v0 := iv 1) (v1 := iv 1) (v2 := sv Qo Qp 24 Qw) (v3 := .slice Pp Q6 Qy) (ex_store (p := pw Sz 0) (v := .agg #[iv 1, iv 1, sv Qo Qp 24 Qw, .slice Pp Q6 Qy]) rfl (by kernel_rfl) (by kernel_rfl) (st53 E1.1 E1.2 Eh.1 Eh.2 F4.1 F4.2 F9.1 F9.2)) E1 Eh F4 F9 ?_);intro Y5 ho E1 Eh F4 F9 hk;replace hE := ho.ext hE (by omega);replace B0 := ho.ext B0 (T (T B6 (T D8 Dy)) (Nat.le_of_eq I4));replace Bq := ho.va (by omega) Bq;have q9 := ho.bx G4 (by omega);replace C0 := q9 C0;replace C3 := q9 C3;replace C4 := q9 C4;replace C2 := q9 C2;clear q9;replace Nd := ho.va (by omega) Nd;replace N0 := N0.turn ho (fun h => absurd h.1 (Nat.not_le_of_lt (Nat.lt_of_lt_of_le Qd (Nat.le_refl _))));have Zm := Nat.le_of_eq ho.size.symm;clear ho hk;refine ⟨(B7.trans B0), ?_⟩;refine wV 9 (iv 0) hR (B7.trans B0) ?_;refine we hL hR hK ?_;have V8 := PcsS.pcs (Cw.ext B0);have B45 := Ext.refl Y5;have X1 := PcsS.pcs N0;exact zl hJ [3, 4, 5, 6, 7, 8, 9] ⟨J9, G4, Qo, Qp, Qw, Pp, Q6, Qy, Sz, rfl, hE, (B0.trans B45), V8, Bq, C0, C3, C4, C2, Vw, Xb, Nd, X1, E1, Eh, F4, F9, (T B6 (T D8 (T Dy (T Nl (T B1x Zm))))), (T B6 Qg), (T (T B6 D8) (Nat.le_of_eq Li)), (T (T B6 (T D8 (T Dy Nl))) Iq), (T (T B6 (T D8 Dy)) (Nat.le_of_eq I4)), Lib.hid (by omega), Lib.hid (by omega), Lib.hid (by omega), Lib.hid (by omega), Lib.hid (by omega), Lib.hid (by omega)⟩
    ·
     refine sw 53 #[iv 0, iv 0, .slice none 0 0, .slice none 0 0] ?_;intro Ub Bbq Kd B5l hb hbx;have ⟨D3, Dk, Dq, Dl⟩ := bq4 hbx;refine mv3 hb hE B0 Bq fun hE B0 Bq=>?_;have Mf := hb.size;have M9 := D3.lt;refine ⟨(B7.trans B0), ?_⟩;refine wS 2 hR (sn_newS (us := #[iv 5, iv 200, .bool false, sv Ma 0 24 24]) (t := 49) (k := 1) (c := 1) (by kernel_rfl) ?_);intro U7 B2l Lp B4u hb hbx;have ⟨Fn, Gq, Gz, H8⟩ := bq4 hbx;refine mv7 hb hE B0 Bq D3 Dk Dq Dl fun hE B0 Bq D3 Dk Dq Dl=>?_;have L3 := hb.size;have Z7 := Fn.lt;refine ⟨(B7.trans B0), ?_⟩;have Vb : PcsAt B2l (some ⟨U7, 0, none⟩) 1 [p5] := PcsB.at (PcsB.cons (p := p5) (o := 0) (o' := 4) rfl (Fn.1) (Gq.1) (Gz.1) (H8.1) (AA.ext (aa_q (Cq.aa)) (B7.trans B0)) PcsB.nil) rfl (by omega);refine wC 3 13 #[iv 1, .agg #[sv J9 0 24 24], sv U7 0 1 1] hR (((Build_c (id := 1) _ _ (by omega) (aa_q (Bq.aa)) (Ext.refl _) Vb (Ext.refl _) (hT.ext hE)).mono fun _ _ h => h.eq (by kernel_rfl) rfl (show _ = [p5] by kernel_rfl)).mono ?_);rintro e Xc ⟨Bao, Bb7, S2, Pj, Pt, Sd, rfl, B0j, Uv, B2y, Vj, Yd, hb⟩;refine mv9 hb hE B0 Bq D3 Dk Dq Dl Fn Gq fun hE B0 Bq D3 Dk Dq Dl Fn Gq=>?_;refine mv2 hb Gz H8 fun Gz H8=>?_;have B0k := hb.size;obtain ⟨Qu, Rx, rfl, rfl, Nf⟩ := va_of B0j (by kernel_rfl);have Im := Uv _ rfl;have B6w := Nf.lt;have N9 : PcsS (fun k => B2l.heap.size ≤ k ∧ k < Xc.heap.size) Xc Pj Pt ([p5]) := PcsS.both B2y;have hS := B7.trans B0;refine ⟨_, rfl, hS, ?_⟩;refine wW 4 (.tuple #[.agg #[iv 1, iv 1, sv Qu Rx 24 S2, .slice Pj Pt Sd], iv 0]) 5 (.agg #[iv 1, iv 1, sv Qu Rx 24 S2, .slice Pj Pt Sd]) hR hS ?_;refine wV 6 (iv 0) hR hS ?_;refine wS 8 hR (sn_setK4 (O := Ub) (j := 0) (v0 := iv 1) (v1 := iv 1) (v2 := sv Qu Rx 24 S2) (v3 := .slice Pj Pt Sd) (ex_store (p := pw Ub 0) (v := .agg #[iv 1, iv 1, sv Qu Rx 24 S2, .slice Pj Pt Sd]) rfl (by kernel_rfl) (by kernel_rfl) (st53 D3.1 D3.2 Dk.1 Dk.2 Dq.1 Dq.2 Dl.1 Dl.2)) D3 Dk Dq Dl ?_);intro Xi ho D3 Dk Dq Dl hk;replace hE := ho.ext hE (by omega);replace B0 := ho.ext B0 (T (T B6 D8) (Nat.le_of_eq Kd));replace Bq := ho.va (by omega) Bq;have q9 := ho.bx U7 (by omega);replace Fn := q9 Fn;replace Gq := q9 Gq;replace Gz := q9 Gz;replace H8 := q9 H8;clear q9;replace Nf := ho.va (by omega) Nf;replace N9 := N9.turn ho (fun h => absurd h.1 (Nat.not_le_of_lt (Nat.lt_of_lt_of_le M9 L3)));have Yr := Nat.le_of_eq ho.size.symm;clear ho hk;refine ⟨(B7.trans B0), ?_⟩;refine wV 9 (iv 0) hR (B7.trans B0) ?_;refine we hL hR hK ?_;have Xg := PcsS.pcs (Cw.ext B0);have B01 := Ext.refl Xi;have Vo := PcsS.pcs N9;exact zl hJ [3, 4, 5, 6, 7, 8, 9] ⟨J9, U7, Qu, Rx, S2, Pj, Pt, Sd, Ub, rfl, hE, (B0.trans B01), Xg, Bq, Fn, Gq, Gz, H8, Vj, Yd, Nf, Vo, D3, Dk, Dq, Dl, (T B6 (T D8 (T Mf (T L3 (T B0k Yr))))), (T B6 Qg), (T (T B6 (T D8 Mf)) (Nat.le_of_eq Lp)), (T (T B6 (T D8 (T Mf L3))) Im), (T (T B6 D8) (Nat.le_of_eq Kd)), Lib.hid (by omega), Lib.hid (by omega), Lib.hid (by omega), Lib.hid (by omega), Lib.hid (by omega), Lib.hid (by omega)⟩
   ·
    refine sn_newS (us := #[iv 5, iv 200, .bool false, sv Ma 0 24 24]) (t := 49) (k := 1) (c := 1) (by kernel_rfl) ?_;intro Jm B9z Mp B4v hb hbx;have ⟨Bb, Be, Bi, Bh⟩ := bq4 hbx;refine mv2 hb hE B0 fun hE B0=>?_;have D5 := hb.size;have G2 := Bb.lt;refine ⟨(B7.trans B0), ?_⟩;refine zw 0 7 hR ?_ ?_
    ·
     refine sc 73 #[iv 7] ((row_c 7 _).mono ?_);rintro e B2i ⟨U3, rfl, Nh, B09, hb⟩;refine mv6 hb hE B0 Bb Be Bi Bh fun hE B0 Bb Be Bi Bh=>?_;have Dw := hb.size;have Ch := B09.va (show Globe.validL (rowL 7) = true by kernel_rfl);have Kv := Ch.lt;refine ⟨_, rfl, B7.trans B0, ?_⟩;refine zw 3 7 hR ?_ ?_
     ·
      have Vy : PcsAt B2i (some ⟨Jm, 0, none⟩) 1 [p5] := PcsB.at (PcsB.cons (p := p5) (o := 0) (o' := 4) rfl (Bb.1) (Be.1) (Bi.1) (Bh.1) (AA.ext (aa_q (Cq.aa)) (B7.trans B0)) PcsB.nil) rfl (by omega);refine sc 13 #[iv 1, .agg #[sv U3 0 24 24], sv Jm 0 1 1] (((Build_c (id := 1) _ _ (by omega) (aa_q (Ch.aa)) (Ext.refl _) Vy (Ext.refl _) (hT.ext hE)).mono fun _ _ h => h.eq (by kernel_rfl) rfl (show _ = [p5] by kernel_rfl)).mono ?_);rintro e Zz ⟨Bai, Baz, Rz, Po, P6, R9, rfl, B2f, Vd, B3d, Wi, Yh, hb⟩;refine mv7 hb hE B0 Bb Be Bi Bh Ch fun hE B0 Bb Be Bi Bh Ch=>?_;have Jg := hb.size;obtain ⟨R6, R4, rfl, rfl, L4⟩ := va_of B2f (by kernel_rfl);have Ly := Vd _ rfl;have Uf := L4.lt;have Jy : PcsS (fun k => B2i.heap.size ≤ k ∧ k < Zz.heap.size) Zz Po P6 ([p5]) := PcsS.both B3d;have hS := B7.trans B0;refine ⟨_, rfl, hS, ?_⟩;refine wW 4 (.tuple #[.agg #[iv 1, iv 1, sv R6 R4 24 Rz, .slice Po P6 R9], iv 0]) 5 (.agg #[iv 1, iv 1, sv R6 R4 24 Rz, .slice Po P6 R9]) hR hS ?_;refine wV 6 (iv 0) hR hS ?_;refine wN 7 53 #[iv 0, iv 0, .slice none 0 0, .slice none 0 0] hR ?_;intro U9 B4k Fb B4s hb hbx;have ⟨Fs, H6, H7, Gm⟩ := bq4 hbx;refine mv9 hb hE B0 Bb Be Bi Bh Ch L4 Jy fun hE B0 Bb Be Bi Bh Ch L4 Jy=>?_;have B2k := hb.size;have B92 := Fs.lt;refine ⟨(B7.trans B0), ?_⟩;refine wS 8 hR (sn_setK4 (O := U9) (j := 0) (v0 := iv 1) (v1 := iv 1) (v2 := sv R6 R4 24 Rz) (v3 := .slice Po P6 R9) (ex_store (p := pw U9 0) (v := .agg #[iv 1, iv 1, sv R6 R4 24 Rz, .slice Po P6 R9]) rfl (by kernel_rfl) (by kernel_rfl) (st53 Fs.1 Fs.2 H6.1 H6.2 H7.1 H7.2 Gm.1 Gm.2)) Fs H6 H7 Gm ?_);intro Ym ho Fs H6 H7 Gm hk;replace hE := ho.ext hE (by omega);replace B0 := ho.ext B0 (by omega);have q9 := ho.bx Jm (by omega);replace Bb := q9 Bb;replace Be := q9 Be;replace Bi := q9 Bi;replace Bh := q9 Bh;clear q9;replace Ch := ho.va (by omega) Ch;replace L4 := ho.va (by omega) L4;replace Jy := Jy.turn ho (fun h => absurd h.2 (Nat.not_lt_of_le (Nat.le_of_eq Fb)));have B0u := Nat.le_of_eq ho.size.symm;clear ho hk;refine ⟨(B7.trans B0), ?_⟩;refine wV 9 (iv 0) hR (B7.trans B0) ?_;refine we hL hR hK ?_;have Yj := PcsS.pcs (Cw.ext B0);have B0r := Ext.refl Ym;have Va := PcsS.pcs Jy;exact zl hJ [3, 4, 5, 6, 7, 8, 9] ⟨U3, Jm, R6, R4, Rz, Po, P6, R9, U9, rfl, hE, (B0.trans B0r), Yj, Ch, Bb, Be, Bi, Bh, Wi, Yh, L4, Va, Fs, H6, H7, Gm, (T B6 (T D5 (T Dw (T Jg (T B2k B0u))))), (T (T B6 D5) Nh), (T B6 (Nat.le_of_eq Mp)), (T (T B6 (T D5 Dw)) Ly), (by omega), Lib.hid (by omega), Lib.hid (by omega), Lib.hid (by omega), Lib.hid (by omega), Lib.hid (by omega), Lib.hid (by omega)⟩
     ·
      refine sw 53 #[iv 0, iv 0, .slice none 0 0, .slice none 0 0] ?_;intro Sw B16 I9 B5h hb hbx;have ⟨E2, Ej, F3, Ez⟩ := bq4 hbx;refine mv7 hb hE B0 Bb Be Bi Bh Ch fun hE B0 Bb Be Bi Bh Ch=>?_;have Nt := hb.size;have S8 := E2.lt;refine ⟨(B7.trans B0), ?_⟩;have V7 : PcsAt B16 (some ⟨Jm, 0, none⟩) 1 [p5] := PcsB.at (PcsB.cons (p := p5) (o := 0) (o' := 4) rfl (Bb.1) (Be.1) (Bi.1) (Bh.1) (AA.ext (aa_q (Cq.aa)) (B7.trans B0)) PcsB.nil) rfl (by omega);refine wC 3 13 #[iv 1, .agg #[sv U3 0 24 24], sv Jm 0 1 1] hR (((Build_c (id := 1) _ _ (by omega) (aa_q (Ch.aa)) (Ext.refl _) V7 (Ext.refl _) (hT.ext hE)).mono fun _ _ h => h.eq (by kernel_rfl) rfl (show _ = [p5] by kernel_rfl)).mono ?_);rintro e Wj ⟨Bag, Bam, Rt, Q8, Pq, S9, rfl, B1k, Yk, B00, Ut, Wn, hb⟩;refine mv9 hb hE B0 Bb Be Bi Bh Ch E2 Ej fun hE B0 Bb Be Bi Bh Ch E2 Ej=>?_;refine mv2 hb F3 Ez fun F3 Ez=>?_;have B1n := hb.size;obtain ⟨S0, Qs, rfl, rfl, Nv⟩ := va_of B1k (by kernel_rfl);have Ik := Yk _ rfl;have B77 := Nv.lt;have Mu : PcsS (fun k => B16.heap.size ≤ k ∧ k < Wj.heap.size) Wj Q8 Pq ([p5]) := PcsS.both B00;have hS := B7.trans B0;refine ⟨_, rfl, hS, ?_⟩;refine wW 4 (.tuple #[.agg #[iv 1, iv 1, sv S0 Qs 24 Rt, .slice Q8 Pq S9], iv 0]) 5 (.agg #[iv 1, iv 1, sv S0 Qs 24 Rt, .slice Q8 Pq S9]) hR hS ?_;refine wV 6 (iv 0) hR hS ?_;refine wS 8 hR (sn_setK4 (O := Sw) (j := 0) (v0 := iv 1) (v1 := iv 1) (v2 := sv S0 Qs 24 Rt) (v3 := .slice Q8 Pq S9) (ex_store (p := pw Sw 0) (v := .agg #[iv 1, iv 1, sv S0 Qs 24 Rt, .slice Q8 Pq S9]) rfl (by kernel_rfl) (by kernel_rfl) (st53 E2.1 E2.2 Ej.1 Ej.2 F3.1 F3.2 Ez.1 Ez.2)) E2 Ej F3 Ez ?_);intro Wg ho E2 Ej F3 Ez hk;replace hE := ho.ext hE (by omega);replace B0 := ho.ext B0 (T (T B6 (T D5 Dw)) (Nat.le_of_eq I9));have q9 := ho.bx Jm (by omega);replace Bb := q9 Bb;replace Be := q9 Be;replace Bi := q9 Bi;replace Bh := q9 Bh;clear q9;replace Ch := ho.va (by omega) Ch;replace Nv := ho.va (by omega) Nv;replace Mu := Mu.turn ho (fun h => absurd h.1 (Nat.not_le_of_lt (Nat.lt_of_lt_of_le S8 (Nat.le_refl _))));have B0z := Nat.le_of_eq ho.size.symm;clear ho hk;refine ⟨(B7.trans B0), ?_⟩;refine wV 9 (iv 0) hR (B7.trans B0) ?_;refine we hL hR hK ?_;have W7 := PcsS.pcs (Cw.ext B0);have B39 := Ext.refl Wg;have Ur := PcsS.pcs Mu;exact zl hJ [3, 4, 5, 6, 7, 8, 9] ⟨U3, Jm, S0, Qs, Rt, Q8, Pq, S9, Sw, rfl, hE, (B0.trans B39), W7, Ch, Bb, Be, Bi, Bh, Ut, Wn, Nv, Ur, E2, Ej, F3, Ez, (T B6 (T D5 (T Dw (T Nt (T B1n B0z))))), (T (T B6 D5) Nh), (T B6 (Nat.le_of_eq Mp)), (T (T B6 (T D5 (T Dw Nt))) Ik), (T (T B6 (T D5 Dw)) (Nat.le_of_eq I9)), Lib.hid (by omega), Lib.hid (by omega), Lib.hid (by omega), Lib.hid (by omega), Lib.hid (by omega), Lib.hid (by omega)⟩
    ·
     refine sw 53 #[iv 0, iv 0, .slice none 0 0, .slice none 0 0] ?_;intro U0 Bbk Ke B55 hb hbx;have ⟨D4, Dh, Dc, Dm⟩ := bq4 hbx;refine mv6 hb hE B0 Bb Be Bi Bh fun hE B0 Bb Be Bi Bh=>?_;have M7 := hb.size;have M3 := D4.lt;refine ⟨(B7.trans B0), ?_⟩;refine wC 0 73 #[iv 7] hR ((row_c 7 _).mono ?_);rintro e Yv ⟨Yx, rfl, Nb, B2r, hb⟩;refine mv9 hb hE B0 Bb Be Bi Bh D4 Dh Dc fun hE B0 Bb Be Bi Bh D4 Dh Dc=>?_;replace Dm := Dm.x hb;have Kx := hb.size;have I7 := B2r.va (show Globe.validL (rowL 7) = true by kernel_rfl);have Zt := I7.lt;refine ⟨_, rfl, B7.trans B0, ?_⟩;have Xn : PcsAt Yv (some ⟨Jm, 0, none⟩) 1 [p5] := PcsB.at (PcsB.cons (p := p5) (o := 0) (o' := 4) rfl (Bb.1) (Be.1) (Bi.1) (Bh.1) (AA.ext (aa_q (Cq.aa)) (B7.trans B0)) PcsB.nil) rfl (by omega);refine wC 3 13 #[iv 1, .agg #[sv Yx 0 24 24], sv Jm 0 1 1] hR (((Build_c (id := 1) _ _ (by omega) (aa_q (I7.aa)) (Ext.refl _) Xn (Ext.refl _) (hT.ext hE)).mono fun _ _ h => h.eq (by kernel_rfl) rfl (show _ = [p5] by kernel_rfl)).mono ?_);rintro e Wt ⟨Baa, B9v, Sk, P3, Pn, Rv, rfl, B0p, Y7, B3y, Xw, Vt, hb⟩;refine mv9 hb hE B0 Bb Be Bi Bh D4 Dh Dc fun hE B0 Bb Be Bi Bh D4 Dh Dc=>?_;refine mv2 hb Dm I7 fun Dm I7=>?_;have B1b := hb.size;obtain ⟨S6, Qh, rfl, rfl, Ni⟩ := va_of B0p (by kernel_rfl);have J1 := Y7 _ rfl;have B8m := Ni.lt;have Mt : PcsS (fun k => Yv.heap.size ≤ k ∧ k < Wt.heap.size) Wt P3 Pn ([p5]) := PcsS.both B3y;have hS := B7.trans B0;refine ⟨_, rfl, hS, ?_⟩;refine wW 4 (.tuple #[.agg #[iv 1, iv 1, sv S6 Qh 24 Sk, .slice P3 Pn Rv], iv 0]) 5 (.agg #[iv 1, iv 1, sv S6 Qh 24 Sk, .slice P3 Pn Rv]) hR hS ?_;refine wV 6 (iv 0) hR hS ?_;refine wS 8 hR (sn_setK4 (O := U0) (j := 0) (v0 := iv 1) (v1 := iv 1) (v2 := sv S6 Qh 24 Sk) (v3 := .slice P3 Pn Rv) (ex_store (p := pw U0 0) (v := .agg #[iv 1, iv 1, sv S6 Qh 24 Sk, .slice P3 Pn Rv]) rfl (by kernel_rfl) (by kernel_rfl) (st53 D4.1 D4.2 Dh.1 Dh.2 Dc.1 Dc.2 Dm.1 Dm.2)) D4 Dh Dc Dm ?_);intro Ve ho D4 Dh Dc Dm hk;replace hE := ho.ext hE (by omega);replace B0 := ho.ext B0 (T (T B6 D5) (Nat.le_of_eq Ke));have q9 := ho.bx Jm (by omega);replace Bb := q9 Bb;replace Be := q9 Be;replace Bi := q9 Bi;replace Bh := q9 Bh;clear q9;replace I7 := ho.va (by omega) I7;replace Ni := ho.va (by omega) Ni;replace Mt := Mt.turn ho (fun h => absurd h.1 (Nat.not_le_of_lt (Nat.lt_of_lt_of_le M3 Kx)));have Z8 := Nat.le_of_eq ho.size.symm;clear ho hk;refine ⟨(B7.trans B0), ?_⟩;refine wV 9 (iv 0) hR (B7.trans B0) ?_;refine we hL hR hK ?_;have Uq := PcsS.pcs (Cw.ext B0);have B2q := Ext.refl Ve;have Xr := PcsS.pcs Mt;exact zl hJ [3, 4, 5, 6, 7, 8, 9] ⟨Yx, Jm, S6, Qh, Sk, P3, Pn, Rv, U0, rfl, hE, (B0.trans B2q), Uq, I7, Bb, Be, Bi, Bh, Xw, Vt, Ni, Xr, D4, Dh, Dc, Dm, (T B6 (T D5 (T M7 (T Kx (T B1b Z8))))), (T (T B6 (T D5 M7)) Nb), (T B6 (Nat.le_of_eq Mp)), (T (T B6 (T D5 (T M7 Kx))) J1), (T (T B6 D5) (Nat.le_of_eq Ke)), Lib.hid (by omega), Lib.hid (by omega), Lib.hid (by omega), Lib.hid (by omega), Lib.hid (by omega), Lib.hid (by omega)⟩
   ·
    refine sw 53 #[iv 0, iv 0, .slice none 0 0, .slice none 0 0] ?_;intro Ml Bb4 J5 B4l hb hbx;have ⟨Bo, Bs, Bt, Bv⟩ := bq4 hbx;refine mv2 hb hE B0 fun hE B0=>?_;have Jf := hb.size;have F8 := Bo.lt;refine ⟨(B7.trans B0), ?_⟩;refine zw 0 2 hR ?_ ?_
    ·
     refine sc 73 #[iv 7] ((row_c 7 _).mono ?_);rintro e Bac ⟨B38, rfl, Qz, Zf, hb⟩;refine mv6 hb hE B0 Bo Bs Bt Bv fun hE B0 Bo Bs Bt Bv=>?_;have Je := hb.size;have Fr := Zf.va (show Globe.validL (rowL 7) = true by kernel_rfl);have Ul := Fr.lt;refine ⟨_, rfl, B7.trans B0, ?_⟩;refine wS 2 hR (sn_newS (us := #[iv 5, iv 200, .bool false, sv Ma 0 24 24]) (t := 49) (k := 1) (c := 1) (by kernel_rfl) ?_);intro Sv B1m Lw B5v hb hbx;have ⟨Fp, Gl, Hb, Gu⟩ := bq4 hbx;refine mv7 hb hE B0 Bo Bs Bt Bv Fr fun hE B0 Bo Bs Bt Bv Fr=>?_;have L6 := hb.size;have B0i := Fp.lt;refine ⟨(B7.trans B0), ?_⟩;have Wm : PcsAt B1m (some ⟨Sv, 0, none⟩) 1 [p5] := PcsB.at (PcsB.cons (p := p5) (o := 0) (o' := 4) rfl (Fp.1) (Gl.1) (Hb.1) (Gu.1) (AA.ext (aa_q (Cq.aa)) (B7.trans B0)) PcsB.nil) rfl (by omega);refine wC 3 13 #[iv 1, .agg #[sv B38 0 24 24], sv Sv 0 1 1] hR (((Build_c (id := 1) _ _ (by omega) (aa_q (Fr.aa)) (Ext.refl _) Wm (Ext.refl _) (hT.ext hE)).mono fun _ _ h => h.eq (by kernel_rfl) rfl (show _ = [p5] by kernel_rfl)).mono ?_);rintro e Yi ⟨Bbm, B9y, Sh, Pi, Py, Si, rfl, B3z, Y8, B36, Wu, Vq, hb⟩;refine mv9 hb hE B0 Bo Bs Bt Bv Fr Fp Gl fun hE B0 Bo Bs Bt Bv Fr Fp Gl=>?_;refine mv2 hb Hb Gu fun Hb Gu=>?_;have Zi := hb.size;obtain ⟨Qq, Sj, rfl, rfl, Ng⟩ := va_of B3z (by kernel_rfl);have Iu := Y8 _ rfl;have B73 := Ng.lt;have N7 : PcsS (fun k => B1m.heap.size ≤ k ∧ k < Yi.heap.size) Yi Pi Py ([p5]) := PcsS.both B36;have hS := B7.trans B0;refine ⟨_, rfl, hS, ?_⟩;refine wW 4 (.tuple #[.agg #[iv 1, iv 1, sv Qq Sj 24 Sh, .slice Pi Py Si], iv 0]) 5 (.agg #[iv 1, iv 1, sv Qq Sj 24 Sh, .slice Pi Py Si]) hR hS ?_;refine wV 6 (iv 0) hR hS ?_;refine wS 8 hR (sn_setK4 (O := Ml) (j := 0) (v0 := iv 1) (v1 := iv 1) (v2 := sv Qq Sj 24 Sh) (v3 := .slice Pi Py Si) (ex_store (p := pw Ml 0) (v := .agg #[iv 1, iv 1, sv Qq Sj 24 Sh, .slice Pi Py Si]) rfl (by kernel_rfl) (by kernel_rfl) (st53 Bo.1 Bo.2 Bs.1 Bs.2 Bt.1 Bt.2 Bv.1 Bv.2)) Bo Bs Bt Bv ?_);intro V5 ho Bo Bs Bt Bv hk;replace hE := ho.ext hE (by omega);replace B0 := ho.ext B0 (T B6 (Nat.le_of_eq J5));replace Fr := ho.va (by omega) Fr;have q9 := ho.bx Sv (by omega);replace Fp := q9 Fp;replace Gl := q9 Gl;replace Hb := q9 Hb;replace Gu := q9 Gu;clear q9;replace Ng := ho.va (by omega) Ng;replace N7 := N7.turn ho (fun h => absurd h.1 (Nat.not_le_of_lt (Nat.lt_of_lt_of_le F8 (T Je L6))));have Zo := Nat.le_of_eq ho.size.symm;clear ho hk;refine ⟨(B7.trans B0), ?_⟩;refine wV 9 (iv 0) hR (B7.trans B0) ?_;refine we hL hR hK ?_;have Uw := PcsS.pcs (Cw.ext B0);have B3p := Ext.refl V5;have Xo := PcsS.pcs N7;exact zl hJ [3, 4, 5, 6, 7, 8, 9] ⟨B38, Sv, Qq, Sj, Sh, Pi, Py, Si, Ml, rfl, hE, (B0.trans B3p), Uw, Fr, Fp, Gl, Hb, Gu, Wu, Vq, Ng, Xo, Bo, Bs, Bt, Bv, (T B6 (T Jf (T Je (T L6 (T Zi Zo))))), (T (T B6 Jf) Qz), (T (T B6 (T Jf Je)) (Nat.le_of_eq Lw)), (T (T B6 (T Jf (T Je L6))) Iu), (T B6 (Nat.le_of_eq J5)), Lib.hid (by omega), Lib.hid (by omega), Lib.hid (by omega), Lib.hid (by omega), Lib.hid (by omega), Lib.hid (by omega)⟩
    ·
     refine sn_newS (us := #[iv 5, iv 200, .bool false, sv Ma 0 24 24]) (t := 49) (k := 1) (c := 1) (by kernel_rfl) ?_;intro Sy Bbc My B5n hb hbx;have ⟨Dz, Et, F1, Ei⟩ := bq4 hbx;refine mv6 hb hE B0 Bo Bs Bt Bv fun hE B0 Bo Bs Bt Bv=>?_;have Jh := hb.size;have Ug := Dz.lt;refine ⟨(B7.trans B0), ?_⟩;refine wC 0 73 #[iv 7] hR ((row_c 7 _).mono ?_);rintro e B22 ⟨Ze, rfl, Nw, Zj, hb⟩;refine mv9 hb hE B0 Bo Bs Bt Bv Dz Et F1 fun hE B0 Bo Bs Bt Bv Dz Et F1=>?_;replace Ei := Ei.x hb;have L1 := hb.size;have Hu := Zj.va (show Globe.validL (rowL 7) = true by kernel_rfl);have B1l := Hu.lt;refine ⟨_, rfl, B7.trans B0, ?_⟩;have Xf : PcsAt B22 (some ⟨Sy, 0, none⟩) 1 [p5] := PcsB.at (PcsB.cons (p := p5) (o := 0) (o' := 4) rfl (Dz.1) (Et.1) (F1.1) (Ei.1) (AA.ext (aa_q (Cq.aa)) (B7.trans B0)) PcsB.nil) rfl (by omega);refine wC 3 13 #[iv 1, .agg #[sv Ze 0 24 24], sv Sy 0 1 1] hR (((Build_c (id := 1) _ _ (by omega) (aa_q (Hu.aa)) (Ext.refl _) Xf (Ext.refl _) (hT.ext hE)).mono fun _ _ h => h.eq (by kernel_rfl) rfl (show _ = [p5] by kernel_rfl)).mono ?_);rintro e Up ⟨B9p, Bad, Qv, Q5, P7, Rj, rfl, B19, Us, B3k, Xy, Xm, hb⟩;refine mv9 hb hE B0 Bo Bs Bt Bv Dz Et F1 fun hE B0 Bo Bs Bt Bv Dz Et F1=>?_;refine mv2 hb Ei Hu fun Ei Hu=>?_;have B1w := hb.size;obtain ⟨Sm, Sa, rfl, rfl, Nx⟩ := va_of B19 (by kernel_rfl);have Iz := Us _ rfl;have B7r := Nx.lt;have N3 : PcsS (fun k => B22.heap.size ≤ k ∧ k < Up.heap.size) Up Q5 P7 ([p5]) := PcsS.both B3k;have hS := B7.trans B0;refine ⟨_, rfl, hS, ?_⟩;refine wW 4 (.tuple #[.agg #[iv 1, iv 1, sv Sm Sa 24 Qv, .slice Q5 P7 Rj], iv 0]) 5 (.agg #[iv 1, iv 1, sv Sm Sa 24 Qv, .slice Q5 P7 Rj]) hR hS ?_;refine wV 6 (iv 0) hR hS ?_;refine wS 8 hR (sn_setK4 (O := Ml) (j := 0) (v0 := iv 1) (v1 := iv 1) (v2 := sv Sm Sa 24 Qv) (v3 := .slice Q5 P7 Rj) (ex_store (p := pw Ml 0) (v := .agg #[iv 1, iv 1, sv Sm Sa 24 Qv, .slice Q5 P7 Rj]) rfl (by kernel_rfl) (by kernel_rfl) (st53 Bo.1 Bo.2 Bs.1 Bs.2 Bt.1 Bt.2 Bv.1 Bv.2)) Bo Bs Bt Bv ?_);intro Y6 ho Bo Bs Bt Bv hk;replace hE := ho.ext hE (by omega);replace B0 := ho.ext B0 (T B6 (Nat.le_of_eq J5));have q9 := ho.bx Sy (by omega);replace Dz := q9 Dz;replace Et := q9 Et;replace F1 := q9 F1;replace Ei := q9 Ei;clear q9;replace Hu := ho.va (by omega) Hu;replace Nx := ho.va (by omega) Nx;replace N3 := N3.turn ho (fun h => absurd h.1 (Nat.not_le_of_lt (Nat.lt_of_lt_of_le F8 (T Jh L1))));have B29 := Nat.le_of_eq ho.size.symm;clear ho hk;refine ⟨(B7.trans B0), ?_⟩;refine wV 9 (iv 0) hR (B7.trans B0) ?_;refine we hL hR hK ?_;have Uu := PcsS.pcs (Cw.ext B0);have B3q := Ext.refl Y6;have Y3 := PcsS.pcs N3;exact zl hJ [3, 4, 5, 6, 7, 8, 9] ⟨Ze, Sy, Sm, Sa, Qv, Q5, P7, Rj, Ml, rfl, hE, (B0.trans B3q), Uu, Hu, Dz, Et, F1, Ei, Xy, Xm, Nx, Y3, Bo, Bs, Bt, Bv, (T B6 (T Jf (T Jh (T L1 (T B1w B29))))), (T (T B6 (T Jf Jh)) Nw), (T (T B6 Jf) (Nat.le_of_eq My)), (T (T B6 (T Jf (T Jh L1))) Iz), (T B6 (Nat.le_of_eq J5)), Lib.hid (by omega), Lib.hid (by omega), Lib.hid (by omega), Lib.hid (by omega), Lib.hid (by omega), Lib.hid (by omega)⟩
  ·
   clear hE B0;rintro L ws Wb ⟨J9, G4, Dv, Fe, Fi, E7, E9, Ff, Fv, rfl, hE, B0, Qf, Bq, C0, C3, C4, C2, Se, Ki, Eb, Fw, Cb, Cs, Cu, Cr, M6, B8x, B8i, B7a, B8b, B7w, B8u, B70, B75, B65, B6z⟩;have Bz := Ext.refl Wb;have B8h := Bq.lt;have B87 := C0.lt;have B6a := Eb.lt;have B8o := Cb.lt;refine zq (zc (zp (pU (.agg #[iv 1, iv 1, sv Dv Fe 24 Fi, .slice E7 E9 Ff]) (xl (ld53 (Cb.1) (Cs.1) (Cu.1) (Cr.1))) ?_)));refine pS (sc 14 #[.agg #[iv 1, iv 1, sv Dv Fe 24 Fi, .slice E7 E9 Ff]] ((Missing_v (id := 1) (ver := 1) _ _ (by omega) (aa_q (Eb.aa)) (Ext.refl _) (Fw) (Ext.refl _) (hT.ext hE) (by kernel_rfl)).mono ?_));rintro e Bau ⟨P9, Pv, Ph, rfl, Kr, hb⟩;refine mv2 hb hE Bz fun hE Bz=>?_;have Ks := hb.size;have Zn := Kr.lt;refine ⟨_, rfl, pD (.tuple #[.agg #[sv P9 Pv 24 Ph], iv 0]) (.agg #[sv P9 Pv 24 Ph]) ?_⟩;refine pT (iv 0) ?_;refine pS (sw 33 #[.slice none 0 0] ?_);intro Pa B4g Mw B4q hb hbx;have Fu := bq1 hbx;refine mv3 hb hE Bz Kr fun hE Bz Kr=>?_;have Nr := hb.size;have B6y := Fu.lt;refine pP (zF Pa 0 (sv P9 Pv 24 Ph) (st33 Fu.1 Fu.2) Fu ?_);intro Mi ho Fu hk;replace hE := ho.ext hE (by omega);replace Bz := ho.ext Bz (T Ks (Nat.le_of_eq Mw));replace Kr := ho.va (by omega) Kr;have Nz := Nat.le_of_eq ho.size.symm;clear ho hk;refine pT (iv 0) ?_;refine pl_nil (qw_then ?_);refine cw_seq ?_;have B4 := Ext.refl Mi;refine cw_join (fun ws' Y => ∃ Jz Ii : Nat, ∃ K9 Km : Nat, ∃ J3 : Option Addr, ∃ J8 Kf Iv : Nat, ws' = [(3, pw Js 0), (4, pw J2 0), (5, iv 0), (6, pw Ib 0), (7, iv 0), (8, pw Fv 0), (9, iv 0), (10, pw Pa 0), (11, iv 0), (12, pw Iv 0), (13, iv 0)] ∧ Ext w Y ∧ Ext Mi Y ∧ PcsAt Y Fy Fm ([p5', p4', p6]) ∧ VA Y Jz 0 (rowL 2) ∧ J8 ≤ Kf ∧ Pl J3 ∧ VA Y Ii K9 (rowL 7) ∧ PcsAt Y J3 J8 ([p5]) ∧ BoxAt Y Iv 0 (iv 1) ∧ BoxAt Y Iv 1 (iv 1) ∧ BoxAt Y Iv 2 (sv Ii K9 24 Km) ∧ BoxAt Y Iv 3 (.slice J3 J8 Kf) ∧ Mi.heap.size ≤ Y.heap.size ∧ Mi.heap.size ≤ Jz ∧ Mi.heap.size ≤ Ii ∧ Mi.heap.size ≤ Iv ∧ Hid (Jz ≠ Ii) ∧ Hid (Jz ≠ Iv) ∧ Hid (Ii ≠ Iv)) (fun hJ => ?_) ?_
   ·
    refine dE Tz42_2 (fun w' => Ext Wb w') (Ext.drew (Bz.trans B4)) (fun ops Q B9x hb hL hR hK => ?_);refine mv2 hb hE B4 fun hE B4=>?_;have D6 := hb.size;refine wM 0 (.agg #[iv 1, iv 1, sv Dv Fe 24 Fi, .slice E7 E9 Ff]) hR (fun w hS => ld53 (Cb.c hS) (Cs.c hS) (Cu.c hS) (Cr.c hS)) (Bz.trans B4) ?_;refine zw 1 7 hR ?_ ?_
    ·
     refine sc 73 #[iv 2] ((row_c 2 _).mono ?_);rintro e B59 ⟨Jz, rfl, Ud, B3b, hb⟩;refine mv2 hb hE B4 fun hE B4=>?_;have Ho := hb.size;have C7 := B3b.va (show Globe.validL (rowL 2) = true by kernel_rfl);have Lb := C7.lt;have hS := Bz.trans B4;refine ⟨_, rfl, hS, ?_⟩;refine wV 2 (.agg #[iv 7, iv 150, .bool false, sv Jz 0 24 24]) hR hS ?_;refine zw 3 7 hR ?_ ?_
     ·
      refine sc 36 #[.agg #[iv 1, iv 1, sv Dv Fe 24 Fi, .slice E7 E9 Ff], .agg #[iv 7, iv 150, .bool false, sv Jz 0 24 24]] (((Next_c (id := 1) (ver := 1) (x := p7) _ _ (by omega) (aa_q (Eb.aa)) (Bz.trans B4) (Fw) (Bz.trans B4) (hT.ext hE) Ki (aa_q (C7.aa)) (Ext.refl _)).mono fun _ _ h => h.eq (by kernel_rfl) (show _ = (1 : Int) by kernel_rfl) (show _ = [p5] by kernel_rfl)).mono ?_);rintro e B04 ⟨Ba5, Bb1, Km, J3, J8, Kf, rfl, B0a, Wr, B0w, Rp, Rb, hb⟩;refine mv3 hb hE B4 C7 fun hE B4 C7=>?_;have Ky := hb.size;obtain ⟨Ii, K9, rfl, rfl, Il⟩ := va_of B0a (by kernel_rfl);have Ny := Wr _ rfl;have Uo := Il.lt;have Kb : PcsS (fun k => B59.heap.size ≤ k ∧ k < B04.heap.size) B04 J3 J8 ([p5]) := PcsS.both B0w;have hS := Bz.trans B4;refine ⟨_, rfl, hS, ?_⟩;refine wW 4 (.tuple #[.agg #[iv 1, iv 1, sv Ii K9 24 Km, .slice J3 J8 Kf], iv 0]) 5 (.agg #[iv 1, iv 1, sv Ii K9 24 Km, .slice J3 J8 Kf]) hR hS ?_;refine wV 6 (iv 0) hR hS ?_;refine wN 7 53 #[iv 0, iv 0, .slice none 0 0, .slice none 0 0] hR ?_;intro Iv B4j Ga B5p hb hbx;have ⟨Di, F5, Ey, Eu⟩ := bq4 hbx;refine mv5 hb hE B4 C7 Il Kb fun hE B4 C7 Il Kb=>?_;have B2n := hb.size;have B6o := Di.lt;refine ⟨(Bz.trans B4), ?_⟩;refine wS 8 hR (sn_setK4 (O := Iv) (j := 0) (v0 := iv 1) (v1 := iv 1) (v2 := sv Ii K9 24 Km) (v3 := .slice J3 J8 Kf) (ex_store (p := pw Iv 0) (v := .agg #[iv 1, iv 1, sv Ii K9 24 Km, .slice J3 J8 Kf]) rfl (by kernel_rfl) (by kernel_rfl) (st53 Di.1 Di.2 F5.1 F5.2 Ey.1 Ey.2 Eu.1 Eu.2)) Di F5 Ey Eu ?_);intro Vk ho Di F5 Ey Eu hk;replace hE := ho.ext hE (by omega);replace B4 := ho.ext B4 (T (T D6 (T Ho Ky)) (Nat.le_of_eq Ga));replace C7 := ho.va (by omega) C7;replace Il := ho.va (by omega) Il;replace Kb := Kb.turn ho (fun h => absurd h.2 (Nat.not_lt_of_le (Nat.le_of_eq Ga)));have B2x := Nat.le_of_eq ho.size.symm;clear ho hk;refine ⟨(Bz.trans B4), ?_⟩;refine wV 9 (iv 0) hR (Bz.trans B4) ?_;refine we hL hR hK ?_;have Z0 := B0.trans Bz;have Gc := PcsS.pcs (Cw.ext (Z0.trans B4));have B3u := Ext.refl Vk;have Mn := PcsS.pcs Kb;exact zl hJ [3, 4, 5, 6, 7, 8, 9, 10, 11, 12, 13] ⟨Jz, Ii, K9, Km, J3, J8, Kf, Iv, rfl, hE, (B4.trans B3u), Gc, C7, Rp, Rb, Il, Mn, Di, F5, Ey, Eu, (T D6 (T Ho (T Ky (T B2n B2x)))), (T D6 Ud), (T (T D6 Ho) Ny), (T (T D6 (T Ho Ky)) (Nat.le_of_eq Ga)), Lib.hid (by omega), Lib.hid (by omega), Lib.hid (by omega)⟩
     ·
      refine sw 53 #[iv 0, iv 0, .slice none 0 0, .slice none 0 0] ?_;intro So B63 K1 B4r hb hbx;have ⟨E3, F2, F0, Es⟩ := bq4 hbx;refine mv3 hb hE B4 C7 fun hE B4 C7=>?_;have R3 := hb.size;have R8 := E3.lt;refine ⟨(Bz.trans B4), ?_⟩;refine wC 3 36 #[.agg #[iv 1, iv 1, sv Dv Fe 24 Fi, .slice E7 E9 Ff], .agg #[iv 7, iv 150, .bool false, sv Jz 0 24 24]] hR (((Next_c (id := 1) (ver := 1) (x := p7) _ _ (by omega) (aa_q (Eb.aa)) (Bz.trans B4) (Fw) (Bz.trans B4) (hT.ext hE) Ki (aa_q (C7.aa)) (Ext.refl _)).mono fun _ _ h => h.eq (by kernel_rfl) (show _ = (1 : Int) by kernel_rfl) (show _ = [p5] by kernel_rfl)).mono ?_);rintro e Yc ⟨Bap, Bbd, Rr, Px, P8, Sc, rfl, B3m, Wh, B2s, Vn, Wo, hb⟩;refine mv7 hb hE B4 C7 E3 F2 F0 Es fun hE B4 C7 E3 F2 F0 Es=>?_;have Zk := hb.size;obtain ⟨Rc, Qm, rfl, rfl, P1⟩ := va_of B3m (by kernel_rfl);have Ju := Wh _ rfl;have B81 := P1.lt;have Ms : PcsS (fun k => B63.heap.size ≤ k ∧ k < Yc.heap.size) Yc Px P8 ([p5]) := PcsS.both B2s;have hS := Bz.trans B4;refine ⟨_, rfl, hS, ?_⟩;refine wW 4 (.tuple #[.agg #[iv 1, iv 1, sv Rc Qm 24 Rr, .slice Px P8 Sc], iv 0]) 5 (.agg #[iv 1, iv 1, sv Rc Qm 24 Rr, .slice Px P8 Sc]) hR hS ?_;refine wV 6 (iv 0) hR hS ?_;refine wS 8 hR (sn_setK4 (O := So) (j := 0) (v0 := iv 1) (v1 := iv 1) (v2 := sv Rc Qm 24 Rr) (v3 := .slice Px P8 Sc) (ex_store (p := pw So 0) (v := .agg #[iv 1, iv 1, sv Rc Qm 24 Rr, .slice Px P8 Sc]) rfl (by kernel_rfl) (by kernel_rfl) (st53 E3.1 E3.2 F2.1 F2.2 F0.1 F0.2 Es.1 Es.2)) E3 F2 F0 Es ?_);intro Wz ho E3 F2 F0 Es hk;replace hE := ho.ext hE (by omega);replace B4 := ho.ext B4 (T (T D6 Ho) (Nat.le_of_eq K1));replace C7 := ho.va (by omega) C7;replace P1 := ho.va (by omega) P1;replace Ms := Ms.turn ho (fun h => absurd h.1 (Nat.not_le_of_lt (Nat.lt_of_lt_of_le R8 (Nat.le_refl _))));have B23 := Nat.le_of_eq ho.size.symm;clear ho hk;refine ⟨(Bz.trans B4), ?_⟩;refine wV 9 (iv 0) hR (Bz.trans B4) ?_;refine we hL hR hK ?_;have B3n := B0.trans Bz;have Xx := PcsS.pcs (Cw.ext (B3n.trans B4));have Zs := Ext.refl Wz;have Vm := PcsS.pcs Ms;exact zl hJ [3, 4, 5, 6, 7, 8, 9, 10, 11, 12, 13] ⟨Jz, Rc, Qm, Rr, Px, P8, Sc, So, rfl, hE, (B4.trans Zs), Xx, C7, Vn, Wo, P1, Vm, E3, F2, F0, Es, (T D6 (T Ho (T R3 (T Zk B23)))), (T D6 Ud), (T (T D6 (T Ho R3)) Ju), (T (T D6 Ho) (Nat.le_of_eq K1)), Lib.hid (by omega), Lib.hid (by omega), Lib.hid (by omega)⟩
    ·
     refine sw 53 #[iv 0, iv 0, .slice none 0 0, .slice none 0 0] ?_;intro U5 B9u N4 B4f hb hbx;have ⟨Cy, Df, Do, Dj⟩ := bq4 hbx;refine mv2 hb hE B4 fun hE B4=>?_;have Qt := hb.size;have Mc := Cy.lt;refine ⟨(Bz.trans B4), ?_⟩;refine wC 1 73 #[iv 2] hR ((row_c 2 _).mono ?_);rintro e B4i ⟨Xl, rfl, S1, Zw, hb⟩;refine mv6 hb hE B4 Cy Df Do Dj fun hE B4 Cy Df Do Dj=>?_;have Mg := hb.size;have Ht := Zw.va (show Globe.validL (rowL 2) = true by kernel_rfl);have B3s := Ht.lt;have hS := Bz.trans B4;refine ⟨_, rfl, hS, ?_⟩;refine wV 2 (.agg #[iv 7, iv 150, .bool false, sv Xl 0 24 24]) hR hS ?_;refine wC 3 36 #[.agg #[iv 1, iv 1, sv Dv Fe 24 Fi, .slice E7 E9 Ff], .agg #[iv 7, iv 150, .bool false, sv Xl 0 24 24]] hR (((Next_c (id := 1) (ver := 1) (x := p7) _ _ (by omega) (aa_q (Eb.aa)) (Bz.trans B4) (Fw) (Bz.trans B4) (hT.ext hE) Ki (aa_q (Ht.aa)) (Ext.refl _)).mono fun _ _ h => h.eq (by kernel_rfl) (show _ = (1 : Int) by kernel_rfl) (show _ = [p5] by kernel_rfl)).mono ?_);rintro e Xz ⟨Baq, Bbp, Rl, Pr, Pm, Qx, rfl, B08, Y0, Zp, Ww, Vr, hb⟩;refine mv7 hb hE B4 Cy Df Do Dj Ht fun hE B4 Cy Df Do Dj Ht=>?_;have B3r := hb.size;obtain ⟨Sb, Ql, rfl, rfl, P2⟩ := va_of B08 (by kernel_rfl);have Jv := Y0 _ rfl;have B7h := P2.lt;have N6 : PcsS (fun k => B4i.heap.size ≤ k ∧ k < Xz.heap.size) Xz Pr Pm ([p5]) := PcsS.both Zp;have hS := Bz.trans B4;refine ⟨_, rfl, hS, ?_⟩;refine wW 4 (.tuple #[.agg #[iv 1, iv 1, sv Sb Ql 24 Rl, .slice Pr Pm Qx], iv 0]) 5 (.agg #[iv 1, iv 1, sv Sb Ql 24 Rl, .slice Pr Pm Qx]) hR hS ?_;refine wV 6 (iv 0) hR hS ?_;refine wS 8 hR (sn_setK4 (O := U5) (j := 0) (v0 := iv 1) (v1 := iv 1) (v2 := sv Sb Ql 24 Rl) (v3 := .slice Pr Pm Qx) (ex_store (p := pw U5 0) (v := .agg #[iv 1, iv 1, sv Sb Ql 24 Rl, .slice Pr Pm Qx]) rfl (by kernel_rfl) (by kernel_rfl) (st53 Cy.1 Cy.2 Df.1 Df.2 Do.1 Do.2 Dj.1 Dj.2)) Cy Df Do Dj ?_);intro V2 ho Cy Df Do Dj hk;replace hE := ho.ext hE (by omega);replace B4 := ho.ext B4 (T D6 (Nat.le_of_eq N4));replace Ht := ho.va (by omega) Ht;replace P2 := ho.va (by omega) P2;replace N6 := N6.turn ho (fun h => absurd h.1 (Nat.not_le_of_lt (Nat.lt_of_lt_of_le Mc Mg)));have B3f := Nat.le_of_eq ho.size.symm;clear ho hk;refine ⟨(Bz.trans B4), ?_⟩;refine wV 9 (iv 0) hR (Bz.trans B4) ?_;refine we hL hR hK ?_;have Zd := B0.trans Bz;have Wc := PcsS.pcs (Cw.ext (Zd.trans B4));have B1e := Ext.refl V2;have Wx := PcsS.pcs N6;exact zl hJ [3, 4, 5, 6, 7, 8, 9, 10, 11, 12, 13] ⟨Xl, Sb, Ql, Rl, Pr, Pm, Qx, U5, rfl, hE, (B4.trans B1e), Wc, Ht, Ww, Vr, P2, Wx, Cy, Df, Do, Dj, (T D6 (T Qt (T Mg (T B3r B3f)))), (T (T D6 Qt) S1), (T (T D6 (T Qt Mg)) Jv), (T D6 (Nat.le_of_eq N4)), Lib.hid (by omega), Lib.hid (by omega), Lib.hid (by omega)⟩
   ·
    clear hE B4;rintro L ws Z1 ⟨Jz, Ii, K9, Km, J3, J8, Kf, Iv, rfl, hE, B4, Gc, C7, Rp, Rb, Il, Mn, Di, F5, Ey, Eu, Zc, B67, B71, B82, B95, B97, B8p⟩;have G3 := Ext.refl Z1;have B7y := C7.lt;have B8w := Il.lt;have B8t := Di.lt;refine zq (zc (zp (pS (sc 73 #[iv 7] ((row_c 7 _).mono ?_)))));rintro e Bbl ⟨B5t, rfl, B91, Yy, hb⟩;refine mv2 hb hE G3 fun hE G3=>?_;have Un := hb.size;have G7 := Yy.va (show Globe.validL (rowL 7) = true by kernel_rfl);have B20 := G7.lt;refine ⟨_, rfl, pS (sc 13 #[iv 64, .agg #[sv B5t 0 24 24], .slice none 0 0] (((Build_c (id := 64) _ _ (by omega) (aa_q (G7.aa)) (Ext.refl _) (PcsAt.nil _ none) (Ext.refl _) (hT.ext hE)).mono fun _ _ h => h.n (show Prod.buildOk 64 (rowL 7) [] = false by kernel_rfl)).mono ?_))⟩;rintro e Ba1 ⟨rfl, hb⟩;refine mv2 hb hE G3 fun hE G3=>?_;have Rw := hb.size;refine ⟨_, rfl, pD (.tuple #[.agg #[iv 0, iv 0, .slice none 0 0, .slice none 0 0], iv 310]) (.agg #[iv 0, iv 0, .slice none 0 0, .slice none 0 0]) ?_⟩;refine pT (iv 310) ?_;refine pS (sw 53 #[iv 0, iv 0, .slice none 0 0, .slice none 0 0] ?_);intro Z9 B4c Mo B56 hb hbx;have ⟨Gk, Iy, Ir, J0⟩ := bq4 hbx;refine mv2 hb hE G3 fun hE G3=>?_;have B8c := hb.size;have B9b := Gk.lt;refine pP (zG Z9 (iv 0) (iv 0) (.slice none 0 0) (.slice none 0 0) (st53 Gk.1 Gk.2 Iy.1 Iy.2 Ir.1 Ir.2 J0.1 J0.2) Gk Iy Ir J0 ?_);intro V3 ho Gk Iy Ir J0 hk;replace hE := ho.ext hE (by omega);replace G3 := ho.ext G3 (T (T Un Rw) (Nat.le_of_eq Mo));have B6v := Nat.le_of_eq ho.size.symm;clear ho hk;refine pT (iv 310) ?_;refine zn (cK [3,4,5,6,7,8,9,10,11,12,13,15] (fun L => ?_));refine cw_seq ?_;refine cw_seq ?_;have C9 := Ext.refl V3;refine zp (pD (iv 0) (.bool false) ?_);refine pD (.bool false) (iv 0) ?_;refine pD (.bool false) (.bool false) ?_;refine pD (.bool false) (iv 0) ?_;refine pD (.bool false) (.bool false) ?_;refine pD (.bool false) (iv 0) ?_;refine pD (.bool false) (.bool false) ?_;refine pD (.bool false) (iv 0) ?_;refine pD (.bool false) (.bool false) ?_;refine pD (.bool false) (iv 310) ?_;refine pD (.bool false) (.bool false) ?_;refine zn (cK [3,4,6,8,10,12,87] (fun L => ?_));refine zf ?_;refine cw_skip (zq (cw_seq ?_));have B02 := B4.trans G3;have B1t := Bz.trans B02;have B2m := B0.trans B1t;have Hm := E8.trans B2m;refine dE Tz42_3 (fun w' => Ext Su w') (Ext.drew (Hm.trans C9)) (fun ops Q Bbi hb hL hR hK => ?_);refine mv2 hb hE C9 fun hE C9=>?_;have B9d := hb.size;refine wM 0 (.agg #[iv 1, iv 1, sv Jo Kl 24 Ko, .slice Kc K3 Kn]) hR (fun w hS => ld53 (Cv.c hS) (Db.c hS) (Da.c hS) (D9.c hS)) (Hm.trans C9) ?_;refine wC 1 73 #[iv 7] hR ((row_c 7 _).mono ?_);rintro e Ba3 ⟨Zy, rfl, B6q, Zx, hb⟩;refine mv2 hb hE C9 fun hE C9=>?_;have B6t := hb.size;have Fc := Zx.va (show Globe.validL (rowL 7) = true by kernel_rfl);have B6i := Fc.lt;refine ⟨_, rfl, Hm.trans C9, ?_⟩;refine wC 2 73 #[iv 4] hR ((row_c 4 _).mono ?_);rintro e Baw ⟨B3c, rfl, B98, B0o, hb⟩;refine mv3 hb hE C9 Fc fun hE C9 Fc=>?_;have B7i := hb.size;have Gb := B0o.va (show Globe.validL (rowL 4) = true by kernel_rfl);have B8j := Gb.lt;have hS := Hm.trans C9;refine ⟨_, rfl, hS, ?_⟩;refine wV 3 (.agg #[iv 5, iv 200, .bool false, sv B3c 0 24 24]) hR hS ?_;refine wC 4 73 #[iv 3] hR ((row_c 3 _).mono ?_);rintro e B9s ⟨B2g, rfl, B7c, B1p, hb⟩;refine mv4 hb hE C9 Fc Gb fun hE C9 Fc Gb=>?_;have B6h := hb.size;have Ja := B1p.va (show Globe.validL (rowL 3) = true by kernel_rfl);have B79 := Ja.lt;have hS := Hm.trans C9;refine ⟨_, rfl, hS, ?_⟩;refine wV 5 (.agg #[iv 4, iv 100, .bool true, sv B2g 0 24 24]) hR hS ?_;refine wS 6 hR (sn_newS (us := #[iv 5, iv 200, .bool false, sv B3c 0 24 24, iv 4, iv 100, .bool true, sv B2g 0 24 24]) (t := 49) (k := 2) (c := 2) (by kernel_rfl) ?_);intro Xj B4d B4y B5u hb hbx;have ⟨Jw, Lk, Le, Lq, M2, Lv, Lh, Ls⟩ := bq8 hbx;refine mv5 hb hE C9 Fc Gb Ja fun hE C9 Fc Gb Ja=>?_;have B85 := hb.size;have B8d := Jw.lt;refine ⟨(Hm.trans C9), ?_⟩;refine wV 7 (.agg #[iv 1, iv 1, sv Zy 0 24 24, sv Xj 0 2 2]) hR (Hm.trans C9) ?_;have Ya : PcsAt B4d (some ⟨Xj, 0, none⟩) 2 [p5', p4] := PcsB.at (PcsB.cons (p := p5') (o := 0) (o' := 4) rfl (Jw.1) (Lk.1) (Le.1) (Lq.1) (AA.ext (aa_q (Gb.aa)) (Ext.refl _)) (PcsB.cons (p := p4) (o := 4) (o' := 8) rfl (M2.1) (Lv.1) (Lh.1) (Ls.1) (AA.ext (aa_q (Ja.aa)) (Ext.refl _)) PcsB.nil)) rfl (by omega);refine wC 8 32 #[.agg #[iv 1, iv 1, sv Jo Kl 24 Ko, .slice Kc K3 Kn], .agg #[iv 1, iv 1, sv Zy 0 24 24, sv Xj 0 2 2]] hR ((rpSame_r (r := true) (id := 1) (ver := 1) (id2 := 1) (ver2 := 1) _ _ _ _ _ (aa_q (Io.aa)) (Hm.trans C9) (Jk) (Hm.trans C9) (aa_q (Fc.aa)) (Ext.refl _) Ya (Ext.refl _) (by kernel_rfl)).mono ?_);rintro e W8 ⟨rfl, hb⟩;refine mv2 hb hE C9 fun hE C9=>?_;have B8y := hb.size;have hS := Hm.trans C9;refine ⟨_, rfl, hS, ?_⟩;refine wV 9 (.bool true) hR hS ?_;refine we hL hR hK ?_;refine zq (cK [3,4,6,8,10,12,16] (fun L => ?_));refine cw_seq ?_;have C5 := Ext.refl W8;have Uc := G3.trans C9;have B0f := B4.trans Uc;have Yu := Bz.trans B0f;have L7 := B0.trans Yu;have B2t := E8.trans L7;have M8 := B2.trans B2t;refine dE Tz42_4 (fun w' => Ext W8 w') (Ext.drew (Ext.refl _)) (fun ops Q B9f hb hL hR hK => ?_);refine mv2 hb hE C5 fun hE C5=>?_;have B6l := hb.size;refine wM 0 (.agg #[iv 1, iv 2, sv Hg Hh 24 Hj, .slice Fy Fm Hk]) hR (fun w hS => ld53 (Ct.c (L7.trans hS)) (D0.c (L7.trans hS)) (Cz.c (L7.trans hS)) (D2.c (L7.trans hS))) C5 ?_;refine wM 6 (.agg #[iv 6, iv 300, .bool true, sv V1 0 24 24]) hR (fun w hS => ld49 (G8.c (M8.trans hS)) (I6.c (M8.trans hS)) (Ia.c (M8.trans hS)) (Ic.c (M8.trans hS))) C5 ?_
    refine wC 1 73 #[iv 7] hR ((row_c 7 _).mono ?_);rintro e B9k ⟨B0q, rfl, B6d, B0h, hb⟩;refine mv2 hb hE C5 fun hE C5=>?_;have B7q := hb.size;have Fd := B0h.va (show Globe.validL (rowL 7) = true by kernel_rfl);have B6k := Fd.lt;refine ⟨_, rfl, C5, ?_⟩;refine wC 2 73 #[iv 4] hR ((row_c 4 _).mono ?_);rintro e Bav ⟨B1a, rfl, B9c, B03, hb⟩;refine mv3 hb hE C5 Fd fun hE C5 Fd=>?_;have B7p := hb.size;have Gh := B03.va (show Globe.validL (rowL 4) = true by kernel_rfl);have B66 := Gh.lt;refine ⟨_, rfl, C5, ?_⟩;refine wV 3 (.agg #[iv 5, iv 200, .bool false, sv B1a 0 24 24]) hR C5 ?_;refine wC 4 73 #[iv 1] hR ((row_c 1 _).mono ?_);rintro e Bat ⟨Zl, rfl, B7e, Z2, hb⟩;refine mv4 hb hE C5 Fd Gh fun hE C5 Fd Gh=>?_;have B7m := hb.size;have J6 := Z2.va (show Globe.validL (rowL 1) = true by kernel_rfl);have B8e := J6.lt;refine ⟨_, rfl, C5, ?_⟩;refine wV 5 (.agg #[iv 4, iv 100, .bool true, sv Zl 0 24 24]) hR C5 ?_;refine wS 7 hR (sn_newS (us := #[iv 5, iv 200, .bool false, sv B1a 0 24 24, iv 4, iv 100, .bool true, sv Zl 0 24 24, iv 6, iv 300, .bool true, sv V1 0 24 24]) (t := 49) (k := 3) (c := 3) (by kernel_rfl) ?_);intro V4 B53 B4e B5a hb hbx;have ⟨Jt, Lm, Ld, Lx, M1, Lr, Lz, Ln, Lo, Lg, Kj, K5⟩ := bq12 hbx;refine mv5 hb hE C5 Fd Gh J6 fun hE C5 Fd Gh J6=>?_;have B7k := hb.size;have B6u := Jt.lt;refine ⟨C5, ?_⟩;refine wV 8 (.agg #[iv 1, iv 2, sv B0q 0 24 24, sv V4 0 3 3]) hR C5 ?_;have X0 : PcsAt B53 (some ⟨V4, 0, none⟩) 3 [p5', p4', p6] := PcsB.at (PcsB.cons (p := p5') (o := 0) (o' := 4) rfl (Jt.1) (Lm.1) (Ld.1) (Lx.1) (AA.ext (aa_q (Gh.aa)) (Ext.refl _)) (PcsB.cons (p := p4') (o := 4) (o' := 8) rfl (M1.1) (Lr.1) (Lz.1) (Ln.1) (AA.ext (aa_q (J6.aa)) (Ext.refl _)) (PcsB.cons (p := p6) (o := 8) (o' := 12) rfl (Lo.1) (Lg.1) (Kj.1) (K5.1) (AA.ext (aa_q (K4.aa)) (M8.trans C5)) PcsB.nil))) rfl (by omega);refine wC 9 32 #[.agg #[iv 1, iv 2, sv Hg Hh 24 Hj, .slice Fy Fm Hk], .agg #[iv 1, iv 2, sv B0q 0 24 24, sv V4 0 3 3]] hR ((rpSame_r (r := true) (id := 1) (ver := 2) (id2 := 1) (ver2 := 2) _ _ _ _ _ (aa_q (Gd.aa)) (L7.trans C5) (Gc) (Uc.trans C5) (aa_q (Fd.aa)) (Ext.refl _) X0 (Ext.refl _) (by kernel_rfl)).mono ?_);rintro e B2v ⟨rfl, hb⟩;refine mv2 hb hE C5 fun hE C5=>?_;have B6b := hb.size;refine ⟨_, rfl, C5, ?_⟩;refine wV 10 (.bool true) hR C5 ?_;refine we hL hR hK ?_;refine zq (cK [4,6,8,10,12,16,17] (fun L => ?_));refine cw_seq ?_;have Dt := Ext.refl B2v;refine cw_plain ?_;have Ys := C9.trans C5;have Ue := G3.trans Ys;have B3a := B4.trans Ue;have K0 := Bz.trans B3a;have M4 := B0.trans K0;refine pU (.agg #[iv 1, iv 2, sv Hg Hh 24 Hj, .slice Fy Fm Hk]) (xl (ld53 (Ct.c (M4.trans Dt)) (D0.c (M4.trans Dt)) (Cz.c (M4.trans Dt)) (D2.c (M4.trans Dt)))) ?_;refine pT (.agg #[iv 1, iv 0]) ?_;refine pS (sc 19 #[.agg #[iv 1, iv 2, sv Hg Hh 24 Hj, .slice Fy Fm Hk], .agg #[iv 1, iv 0]] ((From_y (id := 1) (ver := 2) (u := 1) (v := 0) (p := p6) _ _ (by omega) (aa_q (Gd.aa)) (M4.trans Dt) (Gc) (Ue.trans Dt) (hT.ext hE) (by kernel_rfl) (by kernel_rfl)).mono ?_));rintro e B9w ⟨rfl, hb⟩;refine mv2 hb hE Dt fun hE Dt=>?_;have B7l := hb.size;refine ⟨_, rfl, pD (.tuple #[iv 6, .bool true]) (iv 6) ?_⟩;refine pD (.bool true) (iv 6) ?_;refine pT (.bool true) ?_;refine zn (cK [4,6,8,10,12,16,17,18,19] (fun L => ?_));refine zc (zp (pU (.agg #[iv 1, iv 1, sv Dv Fe 24 Fi, .slice E7 E9 Ff]) (xl (ld53 (Cb.c (K0.trans Dt)) (Cs.c (K0.trans Dt)) (Cu.c (K0.trans Dt)) (Cr.c (K0.trans Dt)))) ?_));refine pT (.agg #[iv 0, iv 0]) ?_;refine pS (sc 19 #[.agg #[iv 1, iv 1, sv Dv Fe 24 Fi, .slice E7 E9 Ff], .agg #[iv 0, iv 0]] ((From_n (id := 1) (ver := 1) (u := 0) (v := 0) _ _ (by omega) (aa_q (Eb.aa)) (K0.trans Dt) (Fw) (K0.trans Dt) (hT.ext hE) (by kernel_rfl) (by kernel_rfl)).mono ?_));rintro e Vi ⟨rfl, hb⟩;refine mv2 hb hE Dt fun hE Dt=>?_;have B7v := hb.size;refine ⟨_, rfl, pD (.tuple #[iv 0, .bool false]) (iv 0) ?_⟩;refine pD (.bool false) (iv 0) ?_;refine pT (.bool false) ?_;refine zn (cK [4,6,8,10,12,16,17,18,19,21] (fun L => ?_));refine cw_seq ?_;have B3 := Ext.refl Vi;have B1i := C5.trans Dt;have B10 := C9.trans B1i;have Ge := G3.trans B10;have Rd := B4.trans Ge;have Fj := Bz.trans Rd;have Cp := B0.trans Fj;have Ca := E8.trans Cp;refine dE Tz42_5 (fun w' => Ext Vi w') (Ext.drew (Ext.refl _)) (fun ops Q B9l hb hL hR hK => ?_);refine mv2 hb hE B3 fun hE B3=>?_;have B7u := hb.size;refine wW 0 (.bool true) 1 (.bool true) hR B3 ?_;refine wW 2 (.bool true) 3 (.bool true) hR B3 ?_;refine wV 4 (.bool true) hR B3 ?_;refine wM 5 (.agg #[sv P9 Pv 24 Ph]) hR (fun w hS => ld33 (Fu.c (Rd.trans hS))) B3 ?_;refine wC 6 73 #[iv 1] hR ((row_c 1 _).mono ?_);rintro e Bak ⟨B5o, rfl, B8n, B37, hb⟩;refine mv2 hb hE B3 fun hE B3=>?_;have B93 := hb.size;have C6 := B37.va (show Globe.validL (rowL 1) = true by kernel_rfl);have B69 := C6.lt;refine ⟨_, rfl, B3, ?_⟩;refine wC 7 16 #[.agg #[sv P9 Pv 24 Ph], .agg #[sv B5o 0 24 24]] hR ((rSame_q (r := true) _ _ _ (Kr.aa) (Rd.trans B3) (C6.aa) (Ext.refl _) (by kernel_rfl)).mono ?_);rintro e Bay ⟨rfl, hb⟩;refine mv2 hb hE B3 fun hE B3=>?_;have B7x := hb.size;refine ⟨_, rfl, B3, ?_⟩;refine wW 8 (.bool true) 9 (.bool true) hR B3 ?_;refine wM 10 (.agg #[iv 1, iv 1, sv Ii K9 24 Km, .slice J3 J8 Kf]) hR (fun w hS => ld53 (Di.c (Ge.trans hS)) (F5.c (Ge.trans hS)) (Ey.c (Ge.trans hS)) (Eu.c (Ge.trans hS))) B3 ?_;refine wM 11 (.agg #[iv 1, iv 1, sv Dv Fe 24 Fi, .slice E7 E9 Ff]) hR (fun w hS => ld53 (Cb.c (Fj.trans hS)) (Cs.c (Fj.trans hS)) (Cu.c (Fj.trans hS)) (Cr.c (Fj.trans hS))) B3 ?_;refine wC 12 31 #[.agg #[iv 1, iv 1, sv Ii K9 24 Km, .slice J3 J8 Kf], .agg #[iv 1, iv 1, sv Dv Fe 24 Fi, .slice E7 E9 Ff]] hR ((pSame_r (r := true) (id := 1) (ver := 1) (id2 := 1) (ver2 := 1) _ _ _ _ _ (aa_q (Il.aa)) (Ge.trans B3) (Mn) (Ge.trans B3) (aa_q (Eb.aa)) (Fj.trans B3) (Fw) (Fj.trans B3) (by kernel_rfl)).mono ?_)
    rintro e Bbb ⟨rfl, hb⟩;refine mv2 hb hE B3 fun hE B3=>?_;have B6g := hb.size;refine ⟨_, rfl, B3, ?_⟩;refine wW 13 (.bool true) 14 (.bool true) hR B3 ?_;refine wM 15 (.agg #[iv 1, iv 1, sv Jo Kl 24 Ko, .slice Kc K3 Kn]) hR (fun w hS => ld53 (Cv.c (Ca.trans hS)) (Db.c (Ca.trans hS)) (Da.c (Ca.trans hS)) (D9.c (Ca.trans hS))) B3 ?_;refine wM 16 (.agg #[iv 1, iv 2, sv Hg Hh 24 Hj, .slice Fy Fm Hk]) hR (fun w hS => ld53 (Ct.c (Cp.trans hS)) (D0.c (Cp.trans hS)) (Cz.c (Cp.trans hS)) (D2.c (Cp.trans hS))) B3 ?_;refine wC 17 31 #[.agg #[iv 1, iv 1, sv Jo Kl 24 Ko, .slice Kc K3 Kn], .agg #[iv 1, iv 2, sv Hg Hh 24 Hj, .slice Fy Fm Hk]] hR ((pSame_r (r := false) (id := 1) (ver := 1) (id2 := 1) (ver2 := 2) _ _ _ _ _ (aa_q (Io.aa)) (Ca.trans B3) (Jk) (Ca.trans B3) (aa_q (Gd.aa)) (Cp.trans B3) (Gc) (Ge.trans B3) (by kernel_rfl)).mono ?_);rintro e B9q ⟨rfl, hb⟩;refine mv2 hb hE B3 fun hE B3=>?_;have B94 := hb.size;refine ⟨_, rfl, B3, ?_⟩;refine wW 18 (.bool true) 19 (.bool true) hR B3 ?_;refine wW 20 (.bool true) 21 (.bool true) hR B3 ?_;refine wW 22 (.bool true) 23 (.bool true) hR B3 ?_;refine wW 24 (iv 6) 25 (.bool true) hR B3 ?_;refine wW 26 (.bool true) 27 (.bool true) hR B3 ?_;refine wW 28 (.bool false) 29 (.bool true) hR B3 ?_;refine wW 30 (.bool true) 31 (.bool true) hR B3 ?_;refine wM 32 (.agg #[iv 1, iv 1, sv Jo Kl 24 Ko, .slice Kc K3 Kn]) hR (fun w hS => ld53 (Cv.c (Ca.trans hS)) (Db.c (Ca.trans hS)) (Da.c (Ca.trans hS)) (D9.c (Ca.trans hS))) B3 ?_;refine wC 33 17 #[.agg #[iv 1, iv 1, sv Jo Kl 24 Ko, .slice Kc K3 Kn]] hR ((Complete_r (r := true) (id := 1) (ver := 1) _ _ (by omega) (aa_q (Io.aa)) (Ca.trans B3) (Jk) (Ca.trans B3) (hT.ext hE) (by kernel_rfl)).mono ?_);rintro e Bbh ⟨rfl, hb⟩;refine mv2 hb hE B3 fun hE B3=>?_;have B6j := hb.size;refine ⟨_, rfl, B3, ?_⟩;refine wW 34 (.bool true) 35 (.bool true) hR B3 ?_;refine wM 36 (.agg #[iv 1, iv 1, sv Dv Fe 24 Fi, .slice E7 E9 Ff]) hR (fun w hS => ld53 (Cb.c (Fj.trans hS)) (Cs.c (Fj.trans hS)) (Cu.c (Fj.trans hS)) (Cr.c (Fj.trans hS))) B3 ?_;refine wC 37 17 #[.agg #[iv 1, iv 1, sv Dv Fe 24 Fi, .slice E7 E9 Ff]] hR ((Complete_r (r := false) (id := 1) (ver := 1) _ _ (by omega) (aa_q (Eb.aa)) (Fj.trans B3) (Fw) (Fj.trans B3) (hT.ext hE) (by kernel_rfl)).mono ?_);rintro e Baj ⟨rfl, hb⟩;refine mv2 hb hE B3 fun hE B3=>?_;have B6p := hb.size;refine ⟨_, rfl, B3, ?_⟩;refine wW 38 (.bool true) 39 (.bool true) hR B3 ?_;refine wV 40 (.bool true) hR B3 ?_;refine wM 41 (.agg #[iv 1, iv 2, sv Hg Hh 24 Hj, .slice Fy Fm Hk]) hR (fun w hS => ld53 (Ct.c (Cp.trans hS)) (D0.c (Cp.trans hS)) (Cz.c (Cp.trans hS)) (D2.c (Cp.trans hS))) B3 ?_;refine wM 42 (.agg #[iv 1, iv 1, sv Jo Kl 24 Ko, .slice Kc K3 Kn]) hR (fun w hS => ld53 (Cv.c (Ca.trans hS)) (Db.c (Ca.trans hS)) (Da.c (Ca.trans hS)) (D9.c (Ca.trans hS))) B3 ?_;refine wC 43 33 #[.agg #[iv 1, iv 2, sv Hg Hh 24 Hj, .slice Fy Fm Hk], .agg #[iv 1, iv 1, sv Jo Kl 24 Ko, .slice Kc K3 Kn]] hR ((Over_r (r := true) (id := 1) (ver := 2) (id2 := 1) (ver2 := 1) _ _ _ (by omega) (by omega) (aa_q (Gd.aa)) (Cp.trans B3) (Gc) (Ge.trans B3) (aa_q (Io.aa)) (Ca.trans B3) (Jk) (Ca.trans B3) (hT.ext hE) (by kernel_rfl)).mono ?_);rintro e B9j ⟨rfl, hb⟩;refine mv2 hb hE B3 fun hE B3=>?_;have B76 := hb.size;refine ⟨_, rfl, B3, ?_⟩;refine wW 44 (.bool true) 45 (.bool true) hR B3 ?_;refine wM 46 (.agg #[iv 1, iv 1, sv Jo Kl 24 Ko, .slice Kc K3 Kn]) hR (fun w hS => ld53 (Cv.c (Ca.trans hS)) (Db.c (Ca.trans hS)) (Da.c (Ca.trans hS)) (D9.c (Ca.trans hS))) B3 ?_;refine wM 47 (.agg #[iv 1, iv 2, sv Hg Hh 24 Hj, .slice Fy Fm Hk]) hR (fun w hS => ld53 (Ct.c (Cp.trans hS)) (D0.c (Cp.trans hS)) (Cz.c (Cp.trans hS)) (D2.c (Cp.trans hS))) B3 ?_;refine wC 48 33 #[.agg #[iv 1, iv 1, sv Jo Kl 24 Ko, .slice Kc K3 Kn], .agg #[iv 1, iv 2, sv Hg Hh 24 Hj, .slice Fy Fm Hk]] hR ((Over_r (r := false) (id := 1) (ver := 1) (id2 := 1) (ver2 := 2) _ _ _ (by omega) (by omega) (aa_q (Io.aa)) (Ca.trans B3) (Jk) (Ca.trans B3) (aa_q (Gd.aa)) (Cp.trans B3) (Gc) (Ge.trans B3) (hT.ext hE) (by kernel_rfl)).mono ?_);rintro e Ba7 ⟨rfl, hb⟩;refine mv2 hb hE B3 fun hE B3=>?_;have B8f := hb.size;refine ⟨_, rfl, B3, ?_⟩;refine wW 49 (.bool true) 50 (.bool true) hR B3 ?_;refine wV 51 (.bool true) hR B3 ?_;refine wM 52 (.agg #[iv 1, iv 2, sv Hg Hh 24 Hj, .slice Fy Fm Hk]) hR (fun w hS => ld53 (Ct.c (Cp.trans hS)) (D0.c (Cp.trans hS)) (Cz.c (Cp.trans hS)) (D2.c (Cp.trans hS))) B3 ?_;refine wC 53 28 #[.agg #[iv 1, iv 2, sv Hg Hh 24 Hj, .slice Fy Fm Hk]] hR ((pValid_r (r := true) (id := 1) (ver := 2) _ _ (by omega) (aa_q (Gd.aa)) (Cp.trans B3) (Gc) (Ge.trans B3) (hT.ext hE) (by kernel_rfl)).mono ?_);rintro e B3j ⟨rfl, hb⟩;refine mv2 hb hE B3 fun hE B3=>?_;have B6r := hb.size;refine ⟨_, rfl, B3, ?_⟩;refine wW 54 (.bool true) 55 (.bool true) hR B3 ?_;refine wV 56 (.agg #[iv 0, iv 0, .slice none 0 0, .slice none 0 0]) hR B3 ?_;refine wC 57 28 #[.agg #[iv 0, iv 0, .slice none 0 0, .slice none 0 0]] hR ((pValid_r (r := false) (id := 0) (ver := 0) _ _ (by omega) (aa_nil B3j) (Ext.refl _) (PcsAt.nil B3j none) (Ext.refl _) (hT.ext hE) (by kernel_rfl)).mono ?_);rintro e Bas ⟨rfl, hb⟩;refine mv2 hb hE B3 fun hE B3=>?_;have B6x := hb.size;refine ⟨_, rfl, B3, ?_⟩;refine wW 58 (.bool true) 59 (.bool true) hR B3 ?_;refine wV 60 (.bool true) hR B3 ?_;refine we hL hR hK ?_;refine zq (cK [0] (fun L => ?_));refine cw_ret (qw_ret [.bool true] rfl ⟨(by kernel_rfl), trivial⟩ ?_);exact ⟨rfl, hE⟩
end Go.Proofs.YtajdohcgjgknmaaGreatDoor

namespace Go.Proofs.YtajdohcgjgknmaaGreatDoor
namespace Prod
open Globe
theorem own_valid {r : List Int} {x : Pc} (h : validL r = true) (hx : okP x = true) : okP (own r x) = true := by
 obtain ⟨a, b, c⟩ := okP_t.1 hx
 exact okP_t.2 ⟨a, b, meet_valid h⟩
theorem mem_divF : ∀ {s : List Pc} {r : List Int} {y : Pc}, y ∈ divF r s → ∃ p ∈ s, y.im = p.im ∧ y.cl = p.cl ∧ y.t = p.t ∧ ∀ u v, v < 24 → hasL y.rw u v = true → hasL p.rw u v = true ∧ hasL r u v = true
  | [], _, _, h => by cases h
  | x :: s, r, y, h => by
    rw [divF] at h
    rcases List.mem_append.1 h with h | h
    · split at h
      · cases h
      · rw [List.mem_singleton.1 h]
        refine ⟨x, by simp, rfl, rfl, rfl, fun u v hv hh => ?_⟩
        have : hasL (meetL r x.rw) u v = true := hh
        rw [has_meet hv, Bool.and_eq_true] at this
        exact ⟨this.2, this.1⟩
    · obtain ⟨p, hp, h1, h2, h3, h4⟩ := mem_divF h
      refine ⟨p, by simp [hp], h1, h2, h3, fun u v hv hh => ?_⟩
      obtain ⟨q1, q2⟩ := h4 u v hv hh
      rw [has_less hv, Bool.and_eq_true] at q2
      exact ⟨q1, q2.1⟩
theorem any_im {pre : List Pc} {im : Int} (h : ∀ q ∈ pre, q.im ≠ im) : (pre.any fun p => decide (p.im = im)) = false := by
 rw [List.any_eq_false]
 exact fun q hq => by simpa using h q hq
theorem vGo_div : ∀ (n : Nat) {s : List Pc}, s.length = n → Sorted s → Dist s → (∀ p ∈ s, okP p = true) → ∀ {r : List Int}, validL r = true → ∀ {free : List Int} {pre : List Pc}, validL free = true →
    (∀ y ∈ divF r s, ∀ u v, v < 24 → hasL y.rw u v = true → hasL free u v = true) → (∀ q ∈ pre, ∀ p ∈ s, q.im ≠ p.im) → (∀ q, pre.getLast? = some q → ∀ p ∈ s, better p q = true) → vGo free pre (divF r s).reverse = true
  | 0, s, hl, _, _, _, r, _, free, pre, _, _, _, _ => by
    obtain rfl := List.eq_nil_of_length_eq_zero hl
    rfl
  | n + 1, s, hl, hs, hd, ho, r, hr, free, pre, hf, hin, him, hbt => by
    rcases List.eq_nil_or_concat s with rfl | ⟨s', x, rfl⟩
    · simp at hl
    rw [List.concat_eq_append] at *
    have hl' : s'.length = n := by simpa using hl
    have hs' : Sorted s' := (List.pairwise_append.1 hs).1
    have hd' : Dist s' := (List.pairwise_append.1 hd).1
    have hsx : ∀ p ∈ s', better p x = true := fun p hp => (List.pairwise_append.1 hs).2.2 p hp x (by simp)
    have hdx : ∀ p ∈ s', p.im ≠ x.im := fun p hp => (List.pairwise_append.1 hd).2.2 p hp x (by simp)
    have ho' : ∀ p ∈ s', okP p = true := fun p hp => ho p (by simp [hp])
    have hR := rest_valid s' hr
    rw [divF_snoc] at hin ⊢
    rw [List.reverse_append]
    cases hz : noC (meetL (rest r s') x.rw)
    · rw [hz] at hin
      rw [if_neg (by simp)] at hin ⊢
      show vGo free pre (own (rest r s') x :: (divF r s').reverse) = true
      have hoy : okP (own (rest r s') x) = true := own_valid hR (ho x (by simp))
      have hyv : validL (own (rest r s') x).rw = true := meet_valid hR
      rw [vGo, Bool.and_eq_true]
      refine ⟨?_, vGo_div n hl' hs' hd' ho' hr (less_valid hf) (fun y hy u v hv hh => ?_) (fun q hq p hp => ?_) (fun q hq p hp => ?_)⟩
      · unfold stepOk
        rw [hoy, show noC (own (rest r s') x).rw = false from hz, (contains_iff hf hyv).2 (fun u v _ hv hh => hin _ (by simp) u v hv hh), any_im (im := (own (rest r s') x).im) (fun q hq => him q hq x (by simp))]
        cases hg : pre.getLast? with
        | none => rfl
        | some q => have h9 : better (own (rest r s') x) q = true := hbt q hg x (by simp); dsimp only; rw [h9]; rfl
      · rw [has_less hv, hin y (by simp [hy]) u v hv hh]
        obtain ⟨p, hp, _, _, _, h4⟩ := mem_divF hy
        have h5 := (h4 u v hv hh).1
        cases h6 : hasL (own (rest r s') x).rw u v
        · rfl
        · have h7 : hasL (meetL (rest r s') x.rw) u v = true := h6
          rw [has_meet hv, has_rest hv, Bool.and_eq_true, Bool.and_eq_true] at h7
          have h8 := List.all_eq_true.1 h7.1.2 p hp
          rw [h5] at h8; cases h8
      · rcases List.mem_append.1 hq with hq | hq
        · exact him q hq p (by simp [hp])
        · rw [List.mem_singleton.1 hq]; exact (hdx p hp).symm
      · rw [List.getLast?_append, List.getLast?_singleton] at hq
        cases hq
        exact hsx p hp
    · rw [hz] at hin
      rw [if_pos rfl] at hin ⊢
      rw [List.append_nil] at hin
      show vGo free pre (divF r s').reverse = true
      exact vGo_div n hl' hs' hd' ho' hr hf hin (fun q hq p hp => him q hq p (by simp [hp])) (fun q hq p hp => hbt q hq p (by simp [hp]))
theorem sortD_ok {l : List Pc} (h : ∀ p ∈ l, okP p = true) : ∀ p ∈ sortD l, okP p = true := fun p hp => h p ((sortD_perm l).mem_iff.1 hp)
theorem divide_len (ar : List Int) (l : List Pc) : (divide ar l).length ≤ l.length := by
 unfold divide
 rw [List.length_reverse]
 exact T (divF_len _ _) (Nat.le_of_eq (sortD_perm l).length_eq)
theorem divide_valid {id ver : Int} {ar : List Int} {l : List Pc} (hid : 0 ≤ id ∧ id ≤ 63) (hver : 1 ≤ ver ∧ ver ≤ 100) (ha : validL ar = true) (ho : ∀ p ∈ l, okP p = true) (hd : Dist l) (hn : l.length ≤ 24) : validP id ver ar (divide ar l) = true := by
 unfold validP headOk
 rw [inB_t.2 hid, inB_t.2 hver, ha, decide_eq_true (T (divide_len ar l) hn)]
 have := vGo_div _ rfl (sortD_sorted hd) ((Dist.perm (sortD_perm l)).2 hd) (sortD_ok ho) ha (free := ar) (pre := []) ha (fun y hy u v hv hh => by
  obtain ⟨p, _, _, _, _, h4⟩ := mem_divF hy
  exact (h4 u v hv hh).2) (fun q hq => by cases hq) (fun q hq => by simp at hq)
 exact this
theorem build_ok {id : Int} {ar : List Int} {l : List Pc} (hid : 0 ≤ id ∧ id ≤ 63) (ha : validL ar = true) (hg : goodL l = true) (hn : l.length ≤ 24) : buildOk id ar l = true := by
 unfold buildOk
 rw [decide_eq_true hn, ha, hg, divide_valid hid (by omega) ha (goodL_ok hg) (goodL_dist hg) hn]; rfl
theorem sameP_refl (id ver : Int) (ar : List Int) (ps : List Pc) : sameP id ver ar ps id ver ar ps = true := by unfold sameP; rw [sameL_iff.2 rfl]; simp
end Prod
end Go.Proofs.YtajdohcgjgknmaaGreatDoor

namespace Go.Proofs.YtajdohcgjgknmaaGreatDoor
namespace Prod
open Globe
theorem okP_v {p : Pc} (h : okP p = true) : validL p.rw = true := (okP_t.1 h).2.2
theorem dist_init {l : List Pc} {x : Pc} (h : Dist (l ++ [x])) : Dist l := (List.pairwise_append.1 h).1
theorem hasIm_app {a b : List Pc} {im : Int} : hasIm (a ++ b) im = (hasIm a im || hasIm b im) := by unfold hasIm; rw [List.any_append]
theorem find_has {ps : List Pc} {u v : Nat} (hu : u < 48) (hv : v < 24) (ho : ∀ p ∈ ps, okP p = true) : (∀ x, ps.find? (fun p => hasB p.rw ((u : Nat) : Int) ((v : Nat) : Int)) = some x → x ∈ ps ∧ hasL x.rw u v = true) ∧ (ps.find? (fun p => hasB p.rw ((u : Nat) : Int) ((v : Nat) : Int)) = none ↔ ¬ ∃ x ∈ ps, hasL x.rw u v = true) := by
  constructor
  · intro x hx
    have hm := List.mem_of_find?_eq_some hx
    have := List.find?_some hx
    rw [hasB_nat (okP_v (ho x hm)) hu hv] at this
    exact ⟨hm, this⟩
  · rw [List.find?_eq_none]
    constructor
    · rintro h ⟨x, hx, hh⟩
      exact h x hx (by rw [hasB_nat (okP_v (ho x hx)) hu hv]; exact hh)
    · intro h x hx hh
      rw [hasB_nat (okP_v (ho x hx)) hu hv] at hh
      exact h ⟨x, hx, hh⟩
end Prod
end Go.Proofs.YtajdohcgjgknmaaGreatDoor

namespace Go.Proofs.YtajdohcgjgknmaaGreatDoor
namespace Prod
open Globe
theorem snoc_ind {α : Type} {P : List α → Prop} (h0 : P []) (hs : ∀ l x, P l → P (l ++ [x])) (l : List α) : P l := by
 have : ∀ n (l : List α), l.length = n → P l := by
  intro n
  induction n with
  | zero => intro l hl; rw [List.eq_nil_of_length_eq_zero hl]; exact h0
  | succ n ih =>
   intro l hl
   rcases List.eq_nil_or_concat l with rfl | ⟨m, x, rfl⟩
   · simp at hl
   · rw [List.concat_eq_append] at *; exact hs m x (ih m (by simpa using hl))
 exact this _ l rfl
def insA (x : Pc) : List Pc → List Pc
 | [] => [x]
 | y :: l => if better x y then y :: insA x l else x :: y :: l
def sortA (l : List Pc) : List Pc := l.foldl (fun out x => insA x out) []
theorem sortA_snoc (l : List Pc) (x : Pc) : sortA (l ++ [x]) = insA x (sortA l) := by unfold sortA; rw [List.foldl_append]; rfl
theorem insA_at {x : Pc} : ∀ {l : List Pc} {k : Nat}, (∀ i y, i < k → l[i]? = some y → better x y = true) → k ≤ l.length → (∀ y, l[k]? = some y → better x y = false) → insA x l = l.take k ++ x :: l.drop k
 | [], k, _, hk, _ => by
  have : k = 0 := by simpa using hk
  subst this; rfl
 | y :: l, 0, _, _, h => by rw [insA, h y rfl]; rfl
 | y :: l, k + 1, h, hk, h2 => by
  rw [insA, h 0 y (by omega) rfl, if_pos rfl, insA_at (k := k) (fun i z hi hz => h (i + 1) z (by omega) (by simpa using hz)) (by simpa using hk) (fun z hz => h2 z (by simpa using hz))]
  rfl
theorem insA_perm (x : Pc) : ∀ l, (insA x l).Perm (x :: l)
 | [] => .refl _
 | y :: l => by
  unfold insA; split
  · exact ((insA_perm x l).cons y).trans (.swap x y l)
  · exact .refl _
def Asc (l : List Pc) : Prop := l.Pairwise fun a b => better b a = true
theorem insA_asc {x : Pc} : ∀ {l : List Pc}, Asc l → (∀ y ∈ l, x.im ≠ y.im) → Asc (insA x l)
  | [], _, _ => List.pairwise_singleton _ _
  | y :: l, h, hd => by
    unfold insA
    obtain ⟨h1, h2⟩ := List.pairwise_cons.1 h
    split
    · rename_i hb
      refine List.pairwise_cons.2 ⟨fun z hz => ?_, insA_asc h2 fun z hz => hd z (by simp [hz])⟩
      rcases List.mem_cons.1 ((insA_perm x l).mem_iff.1 hz) with rfl | hz
      · exact hb
      · exact h1 z hz
    · rename_i hb
      have hyx : better y x = true := (better_or (hd y (by simp))).resolve_left hb
      exact List.pairwise_cons.2 ⟨fun z hz => by
        rcases List.mem_cons.1 hz with rfl | hz
        · exact hyx
        · exact better_trans (h1 z hz) hyx, h⟩
theorem sortA_perm (l : List Pc) : (sortA l).Perm l :=
 snoc_ind (P := fun l => (sortA l).Perm l) (.refl _) (fun l x ih => by rw [sortA_snoc]; exact (insA_perm x _).trans ((ih.cons x).trans (List.perm_append_comm (l₁ := [x])))) l
theorem sortA_asc {l : List Pc} : Dist l → Asc (sortA l) :=
 snoc_ind (P := fun l => Dist l → Asc (sortA l)) (fun _ => List.Pairwise.nil) (fun l x ih hd => by
  rw [sortA_snoc]
  exact insA_asc (ih (dist_init hd)) fun y hy => ((List.pairwise_append.1 hd).2.2 y ((sortA_perm l).mem_iff.1 hy) x (by simp)).symm) l
theorem sortA_eq {l : List Pc} (hd : Dist l) : sortA l = (sortD l).reverse := by
 have h : (sortA l).reverse = sortD l := sortD_eq hd (List.pairwise_reverse.2 (sortA_asc hd)) ((List.reverse_perm _).trans (sortA_perm l))
 rw [← h, List.reverse_reverse]
theorem sortA_rev {l : List Pc} (hd : Dist l) : (sortA l).reverse = sortD l := by rw [sortA_eq hd, List.reverse_reverse]
def divA (ar : List Int) (s : List Pc) : List Pc := (divF ar s.reverse).reverse
theorem divA_sort {ar : List Int} {l : List Pc} (hd : Dist l) : divA ar (sortA l) = divide ar l := by unfold divA divide; rw [sortA_rev hd]
theorem rev_take {s : List Pc} {i : Nat} {x : Pc} (hx : s[i]? = some x) : s.reverse.take (s.length - i) = s.reverse.take (s.length - (i + 1)) ++ [x] := by
 obtain ⟨hi, _⟩ := List.getElem?_eq_some_iff.1 hx
 have e : s.length - i = (s.length - (i + 1)) + 1 := by omega
 rw [e, List.take_add_one, List.getElem?_reverse (by omega), show s.length - 1 - (s.length - (i + 1)) = i by omega, hx]
 rfl
theorem divA_step {ar : List Int} {s : List Pc} {i : Nat} {x : Pc} (hx : s[i]? = some x) :
  (divF ar (s.reverse.take (s.length - i))).reverse = (if noC (meetL (rest ar (s.reverse.take (s.length - (i + 1)))) x.rw) then [] else [own (rest ar (s.reverse.take (s.length - (i + 1)))) x]) ++ (divF ar (s.reverse.take (s.length - (i + 1)))).reverse := by
 rw [rev_take hx, divF_snoc, List.reverse_append]
 congr 1
 split <;> rfl
theorem restA_step {ar : List Int} {s : List Pc} {i : Nat} {x : Pc} (hx : s[i]? = some x) : rest ar (s.reverse.take (s.length - i)) = lessL (rest ar (s.reverse.take (s.length - (i + 1)))) x.rw := by
 rw [rev_take hx, rest_snoc]
theorem less_zero {l : List Int} (h : validL l = true) : lessL l zeroL = l :=
 ext_has (less_valid h) h fun u v hu hv => by rw [has_less hv, has_zero]; simp
def apart (pre : List Pc) (x : Pc) : Bool := pre.all fun q => noC (meetL x.rw q.rw) && !decide (q.im = x.im)
def stepR (ar : List Int) (pre : List Pc) (x : Pc) : Bool :=
 (okP x && (!noC x.rw && (containsB ar x.rw && (match pre.getLast? with | none => true | some p => better x p)))) && apart pre x
def rGo (ar : List Int) : List Pc → List Pc → Bool
 | _, [] => true
 | pre, x :: l => stepR ar pre x && rGo ar (pre ++ [x]) l
theorem rGo_step {ar : List Int} {pre l : List Pc} {i : Nat} {p : Pc} (hp : l[i]? = some p) : rGo ar pre (l.drop i) = (stepR ar pre p && rGo ar (pre ++ [p]) (l.drop (i + 1))) := by
 obtain ⟨hi, rfl⟩ := List.getElem?_eq_some_iff.1 hp
 rw [List.drop_eq_getElem_cons hi, rGo]
theorem contains_rest {ar x : List Int} {pre : List Pc} (ha : validL ar = true) (hx : validL x = true) : containsB (rest ar pre) x = (containsB ar x && pre.all fun q => noC (meetL x q.rw)) := by
  rw [Bool.eq_iff_iff, Bool.and_eq_true, contains_iff (rest_valid pre ha) hx, contains_iff ha hx, List.all_eq_true]
  constructor
  · intro h
    refine ⟨fun u v hu hv hh => ?_, fun q hq => (noC_iff (meet_valid hx)).2 fun u v hu hv => ?_⟩
    · have := h u v hu hv hh
      rw [has_rest hv, Bool.and_eq_true] at this; exact this.1
    · rw [has_meet hv]
      cases hh : hasL x u v
      · rfl
      · have := h u v hu hv hh
        rw [has_rest hv, Bool.and_eq_true, List.all_eq_true] at this
        have := this.2 q hq
        simpa using this
  · rintro ⟨h1, h2⟩ u v hu hv hh
    rw [has_rest hv, h1 u v hu hv hh, Bool.true_and, List.all_eq_true]
    intro q hq
    have := (noC_iff (meet_valid hx)).1 (h2 q hq) u v hu hv
    rw [has_meet hv, hh, Bool.true_and] at this
    rw [this]; rfl
theorem stepR_eq {ar : List Int} {pre : List Pc} {x : Pc} (ha : validL ar = true) : stepOk (rest ar pre) pre x = stepR ar pre x := by
  unfold stepOk stepR apart
  cases ho : okP x
  · simp
  · rw [contains_rest ha (okP_v ho)]
    have hall : (pre.all fun q => noC (meetL x.rw q.rw) && !decide (q.im = x.im)) = ((pre.all fun q => noC (meetL x.rw q.rw)) && !pre.any fun p => decide (p.im = x.im)) := by
      induction pre with
      | nil => rfl
      | cons q l ih => rw [List.all_cons, List.all_cons, List.any_cons, ih]; cases noC (meetL x.rw q.rw) <;> cases decide (q.im = x.im) <;> simp
    rw [hall]
    cases noC x.rw <;> cases containsB ar x.rw <;> cases (pre.all fun q => noC (meetL x.rw q.rw)) <;> simp <;> rfl
theorem rGo_eq {ar : List Int} (ha : validL ar = true) : ∀ {l pre : List Pc}, vGo (rest ar pre) pre l = rGo ar pre l
 | [], _ => rfl
 | x :: l, pre => by rw [vGo, rGo, stepR_eq ha, ← rest_snoc, rGo_eq ha]
theorem rGo_all {ar : List Int} {l : List Pc} (ha : validL ar = true) : vGo ar [] l = rGo ar [] l := rGo_eq (pre := []) ha
theorem apart_snoc (pre : List Pc) (q x : Pc) : apart (pre ++ [q]) x = (apart pre x && (noC (meetL x.rw q.rw) && !decide (q.im = x.im))) := by
 unfold apart; rw [List.all_append]; simp
theorem apart_no {pre : List Pc} {x q : Pc} {k : Nat} (hq : pre[k]? = some q) (h : (noC (meetL x.rw q.rw) && !decide (q.im = x.im)) = false) : apart pre x = false := by
 cases r : apart pre x
 · rfl
 · have := List.all_eq_true.1 r q (List.mem_of_getElem? hq); rw [h] at this; cases this
def pieceAt (ps : List Pc) (c : Nat × Nat) : Option Pc := ps.find? fun p => hasB p.rw ((c.1 : Nat) : Int) ((c.2 : Nat) : Int)
def okR (ps qs : List Pc) (c : Nat × Nat) : Bool := match pieceAt qs c with
 | none => true
 | some y => match pieceAt ps c with
  | none => false
  | some x => !better y x
theorem vGo_has {F : List Int} : ∀ {l pre : List Pc}, vGo F pre l = true → validL F = true → (∀ p ∈ l, ∀ u v, u < 48 → v < 24 → hasL p.rw u v = true → hasL F u v = true) ∧ l.Pairwise fun p q => ∀ u v, u < 48 → v < 24 → hasL p.rw u v = true → hasL q.rw u v = false
  | [], _, _, _ => ⟨fun _ h => by (cases h), List.Pairwise.nil⟩
  | x :: l, pre, h, hF => by
    rw [vGo, Bool.and_eq_true] at h
    have hx := h.1
    simp only [stepOk, Bool.and_eq_true] at hx
    have hv := okP_v hx.1
    obtain ⟨h1, h2⟩ := vGo_has h.2 (less_valid hF)
    have hc := (contains_iff hF hv).1 hx.2.2.1
    refine ⟨fun p hp u v hu hv' hh => ?_, List.pairwise_cons.2 ⟨fun q hq u v hu hv' hh => ?_, h2⟩⟩
    · rcases List.mem_cons.1 hp with rfl | hp
      · exact hc u v hu hv' hh
      · have := h1 p hp u v hu hv' hh
        rw [has_less hv', Bool.and_eq_true] at this; exact this.1
    · cases k : hasL q.rw u v
      · rfl
      · have := h1 q hq u v hu hv' k
        rw [has_less hv', hh] at this; simp at this
theorem overL_okR {id ver id2 ver2 : Int} {ar : List Int} {ps qs : List Pc} (ha : validP id ver ar ps = true) (hb : validP id2 ver2 ar qs = true) : overL ps qs = (cellsTo ar 24).all (okR ps qs) := by
  have hok := validP_pcs ha
  obtain ⟨_, _, hva, _, hg⟩ := validP_t hb
  obtain ⟨h1, h2⟩ := vGo_has hg hva
  have hqo : ∀ p ∈ qs, okP p = true := vGo_pcs hg
  rw [Bool.eq_iff_iff]
  unfold overL
  rw [List.all_eq_true, List.all_eq_true]
  constructor
  · intro h c hc
    obtain ⟨c2, c1, _⟩ := mem_cells.1 hc
    unfold okR
    cases hy : pieceAt qs c with
    | none => rfl
    | some y =>
      obtain ⟨hm, hh⟩ := (find_has (ps := qs) c1 c2 hqo).1 y hy
      have := List.all_eq_true.1 (h y hm) c (mem_cells.2 ⟨c2, c1, hh⟩)
      exact this
  · intro h y hy
    rw [List.all_eq_true]
    intro c hc
    obtain ⟨c2, c1, hh⟩ := mem_cells.1 hc
    have hca : c ∈ cellsTo ar 24 := mem_cells.2 ⟨c2, c1, h1 y hy _ _ c1 c2 hh⟩
    have h9 := h c hca
    unfold okR at h9
    cases hf : pieceAt qs c with
    | none => exact absurd ⟨y, hy, hh⟩ ((find_has (ps := qs) c1 c2 hqo).2.1 hf)
    | some z =>
      obtain ⟨hm, hz⟩ := (find_has (ps := qs) c1 c2 hqo).1 z hf
      have e : z = y := by
        obtain ⟨i, hi⟩ := List.getElem?_of_mem hm
        obtain ⟨j, hj⟩ := List.getElem?_of_mem hy
        obtain ⟨i1, i2⟩ := List.getElem?_eq_some_iff.1 hi
        obtain ⟨j1, j2⟩ := List.getElem?_eq_some_iff.1 hj
        rw [List.pairwise_iff_getElem] at h2
        rcases Nat.lt_trichotomy i j with q | q | q
        · have := h2 i j i1 j1 q _ _ c1 c2 (by rw [i2]; exact hz)
          rw [j2, hh] at this; cases this
        · subst q; rw [← i2, ← j2]
        · have := h2 j i j1 i1 q _ _ c1 c2 (by rw [j2]; exact hh)
          rw [i2, hz] at this; cases this
      subst e
      rw [hf] at h9
      exact h9
def overR (id ver : Int) (ar : List Int) (ps : List Pc) (id2 ver2 : Int) (ar2 : List Int) (qs : List Pc) : Bool :=
 (validP id ver ar ps && validP id2 ver2 ar2 qs) && ((decide (id = id2) && decide (ar = ar2)) && (decide (ver2 < ver) && (cellsTo ar 24).all (okR ps qs)))
theorem overR_eq (id ver : Int) (ar : List Int) (ps : List Pc) (id2 ver2 : Int) (ar2 : List Int) (qs : List Pc) : overB id ver ar ps id2 ver2 ar2 qs = overR id ver ar ps id2 ver2 ar2 qs := by
 unfold overB overR
 cases ha : validP id ver ar ps
 · rfl
 cases hb : validP id2 ver2 ar2 qs
 · rfl
 by_cases e : ar = ar2
 · subst e; rw [overL_okR ha hb]
 · rw [decide_eq_false e]; simp
theorem all_step {α : Type} {f : α → Bool} {l : List α} {i : Nat} {x : α} (h : (l.take i).all f = true) (hx : l[i]? = some x) (hf : f x = true) : (l.take (i + 1)).all f = true := by
 rw [List.take_add_one, hx, List.all_append, h]; simp [hf]
theorem all_bad {α : Type} {f : α → Bool} {l : List α} {i : Nat} {x : α} (hx : l[i]? = some x) (hf : f x = false) : l.all f = false := by
 cases q : l.all f
 · rfl
 · have := List.all_eq_true.1 q x (List.mem_of_getElem? hx); rw [hf] at this; cases this
end Prod
end Go.Proofs.YtajdohcgjgknmaaGreatDoor

namespace Go.Proofs.YtajdohcgjgknmaaGreatDoor
set_option maxRecDepth 1000000
set_option maxHeartbeats 4000000
set_option synthInstance.maxHeartbeats 0
set_option synthInstance.maxSize 9999
open Go.RowKit
theorem rBetter_c {x y : Prod.Pc} {a b : Option Addr} {k c m d : Nat} (w : World) : Calls Tryz.prog 84 #[.agg #[iv x.im, iv x.t, .bool x.cl, .slice a k c], .agg #[iv y.im, iv y.t, .bool y.cl, .slice b m d]] w fun e w' => e = .returned (.bool (Prod.better x y)) ∧ Ext w w' := by
 cases hx : x.cl
 ·
  cases hy : y.cl
  ·
   refine calls_cw 27 [(1, .agg #[iv y.im, iv y.t, .bool false, .slice b m d]), (0, .agg #[iv x.im, iv x.t, .bool false, .slice a k c])] Tryz.func84 rfl Tryz.ntmps84 (by kernel_rfl) (by kernel_rfl) (fun L => ?_);have hE := Ext.refl w;refine zc (zp (pS (sw 49 #[iv x.im, iv x.t, .bool false, .slice a k c] ?_)));intro O1 X2 Bi Bj hb hbx;have ⟨B0, B3, B2, B4⟩ := bq4 hbx;replace hE := hE.trans hb;have Bl := hb.size;have Bk := B0.lt;refine pS (sw 49 #[iv y.im, iv y.t, .bool false, .slice b m d] ?_);intro O5 X6 Bh Bg hb hbx;have ⟨B6, B7, Ba, Bf⟩ := bq4 hbx;refine mv5 hb hE B0 B3 B2 B4 fun hE B0 B3 B2 B4=>?_;have Bo := hb.size;have Bm := B6.lt;refine pT (.bool false) ?_;refine zn (zc (zc (zp (pT (pw O1 2) ?_))));refine pU (.bool false) (xl (ld4 (B2.1))) ?_;refine pT (pw O5 2) ?_;refine pU (.bool false) (xl (ld4 (Ba.1))) ?_;refine pT (.bool false) ?_;refine zn (zf ?_);refine cw_skip (zq (zc (zc (zp (pT (pw O1 1) ?_)))));refine pU (iv x.t) (xl (ld3 (B3.1))) ?_;refine pT (pw O5 1) ?_;refine pU (iv y.t) (xl (ld3 (B7.1))) ?_
   by_cases Be : (x.t : Int) = (y.t : Int)
   ·
    refine pU (.bool false) (ev_nne (show _ = Result.ok (Next.value (Value.bool ((x.t : Int) != (y.t : Int)))) _ from by kernel_rfl) (Be)) ?_;refine zn (cK [2,3,16] (fun L => ?_));refine zf ?_;refine cw_skip (zq (zc (zp (pT (pw O1 0) ?_))));refine pU (iv x.im) (xl (ld3 (B0.1))) ?_;refine pT (pw O5 0) ?_;refine pU (iv y.im) (xl (ld3 (B6.1))) ?_
    by_cases Bb : (x.im : Int) > (y.im : Int)
    ·
     refine pU (.bool true) (ed ((x.im : Int) > (y.im : Int)) (Bb)) ?_;refine pT (.bool true) ?_;refine zn (cw_ret (qw_ret [.bool true] rfl ⟨(by kernel_rfl), trivial⟩ ?_));exact ⟨rb (show Prod.better x y = true by unfold Prod.better Prod.bet; simp [hx, hy, Be, Bb]).symm, hE⟩
    ·
     refine pU (.bool false) (en ((x.im : Int) > (y.im : Int)) (Bb)) ?_;refine pT (.bool false) ?_;refine zn (cw_ret (qw_ret [.bool false] rfl ⟨(by kernel_rfl), trivial⟩ ?_));exact ⟨rb (show Prod.better x y = false by unfold Prod.better Prod.bet; simp [hx, hy, Be, Bb]).symm, hE⟩
   ·
    refine pU (.bool true) (eM (x.t : Int) (y.t : Int) (Be)) ?_;refine zn (cK [2,3,16] (fun L => ?_));refine zt ?_;refine zc (zp (pT (pw O1 1) ?_));refine pU (iv x.t) (xl (ld3 (B3.1))) ?_;refine pT (pw O5 1) ?_;refine pU (iv y.t) (xl (ld3 (B7.1))) ?_
    by_cases Bc : (x.t : Int) > (y.t : Int)
    ·
     refine pU (.bool true) (ed ((x.t : Int) > (y.t : Int)) (Bc)) ?_;refine pT (.bool true) ?_;refine zn (cw_ret (qw_then_ret (qw_ret [.bool true] rfl ⟨(by kernel_rfl), trivial⟩ ?_)));exact ⟨rb (show Prod.better x y = true by unfold Prod.better Prod.bet; simp [hx, hy, Be, Bc]).symm, hE⟩
    ·
     refine pU (.bool false) (en ((x.t : Int) > (y.t : Int)) (Bc)) ?_;refine pT (.bool false) ?_;refine zn (cw_ret (qw_then_ret (qw_ret [.bool false] rfl ⟨(by kernel_rfl), trivial⟩ ?_)));exact ⟨rb (show Prod.better x y = false by unfold Prod.better Prod.bet; simp [hx, hy, Be, Bc]).symm, hE⟩
  ·
   refine calls_cw 27 [(1, .agg #[iv y.im, iv y.t, .bool true, .slice b m d]), (0, .agg #[iv x.im, iv x.t, .bool false, .slice a k c])] Tryz.func84 rfl Tryz.ntmps84 (by kernel_rfl) (by kernel_rfl) (fun L => ?_);have hE := Ext.refl w;refine zc (zp (pS (sw 49 #[iv x.im, iv x.t, .bool false, .slice a k c] ?_)));intro O1 X2 Bi Bj hb hbx;have ⟨B0, B3, B2, B4⟩ := bq4 hbx;replace hE := hE.trans hb;have Bl := hb.size;have Bk := B0.lt;refine pS (sw 49 #[iv y.im, iv y.t, .bool true, .slice b m d] ?_);intro O5 X6 Bh Bg hb hbx;have ⟨B6, B7, Ba, Bf⟩ := bq4 hbx;refine mv5 hb hE B0 B3 B2 B4 fun hE B0 B3 B2 B4=>?_;have Bo := hb.size;have Bm := B6.lt;refine pT (.bool false) ?_;refine zn (zc (zc (zp (pT (pw O1 2) ?_))));refine pU (.bool false) (xl (ld4 (B2.1))) ?_;refine pT (pw O5 2) ?_;refine pU (.bool true) (xl (ld4 (Ba.1))) ?_;refine pT (.bool true) ?_;refine zn (zt ?_);refine zc (zp (pT (pw O1 2) ?_));refine pU (.bool false) (xl (ld4 (B2.1))) ?_;refine pT (.bool false) ?_;refine zn (cw_ret (qw_then_ret (qw_ret [.bool false] rfl ⟨(by kernel_rfl), trivial⟩ ?_)));exact ⟨rb (show Prod.better x y = false by unfold Prod.better Prod.bet; simp [hx, hy]).symm, hE⟩
 ·
  cases hy : y.cl
  ·
   refine calls_cw 27 [(1, .agg #[iv y.im, iv y.t, .bool false, .slice b m d]), (0, .agg #[iv x.im, iv x.t, .bool true, .slice a k c])] Tryz.func84 rfl Tryz.ntmps84 (by kernel_rfl) (by kernel_rfl) (fun L => ?_);have hE := Ext.refl w;refine zc (zp (pS (sw 49 #[iv x.im, iv x.t, .bool true, .slice a k c] ?_)));intro O1 X2 Bi Bj hb hbx;have ⟨B0, B3, B2, B4⟩ := bq4 hbx;replace hE := hE.trans hb;have Bl := hb.size;have Bk := B0.lt;refine pS (sw 49 #[iv y.im, iv y.t, .bool false, .slice b m d] ?_);intro O5 X6 Bh Bg hb hbx;have ⟨B6, B7, Ba, Bf⟩ := bq4 hbx;refine mv5 hb hE B0 B3 B2 B4 fun hE B0 B3 B2 B4=>?_;have Bo := hb.size;have Bm := B6.lt;refine pT (.bool false) ?_;refine zn (zc (zc (zp (pT (pw O1 2) ?_))));refine pU (.bool true) (xl (ld4 (B2.1))) ?_;refine pT (pw O5 2) ?_;refine pU (.bool false) (xl (ld4 (Ba.1))) ?_;refine pT (.bool true) ?_;refine zn (zt ?_);refine zc (zp (pT (pw O1 2) ?_));refine pU (.bool true) (xl (ld4 (B2.1))) ?_;refine pT (.bool true) ?_;refine zn (cw_ret (qw_then_ret (qw_ret [.bool true] rfl ⟨(by kernel_rfl), trivial⟩ ?_)));exact ⟨rb (show Prod.better x y = true by unfold Prod.better Prod.bet; simp [hx, hy]).symm, hE⟩
  ·
   refine calls_cw 27 [(1, .agg #[iv y.im, iv y.t, .bool true, .slice b m d]), (0, .agg #[iv x.im, iv x.t, .bool true, .slice a k c])] Tryz.func84 rfl Tryz.ntmps84 (by kernel_rfl) (by kernel_rfl) (fun L => ?_);have hE := Ext.refl w;refine zc (zp (pS (sw 49 #[iv x.im, iv x.t, .bool true, .slice a k c] ?_)));intro O1 X2 Bi Bj hb hbx;have ⟨B0, B3, B2, B4⟩ := bq4 hbx;replace hE := hE.trans hb;have Bl := hb.size;have Bk := B0.lt;refine pS (sw 49 #[iv y.im, iv y.t, .bool true, .slice b m d] ?_);intro O5 X6 Bh Bg hb hbx;have ⟨B6, B7, Ba, Bf⟩ := bq4 hbx;refine mv4 hb hE B0 B3 B2 fun hE B0 B3 B2=>?_;have Bo := hb.size;have Bm := B6.lt;refine pT (.bool false) ?_;refine zn (zc (zc (zp (pT (pw O1 2) ?_))));refine pU (.bool true) (xl (ld4 (B2.1))) ?_;refine pT (pw O5 2) ?_;refine pU (.bool true) (xl (ld4 (Ba.1))) ?_;refine pT (.bool false) ?_;refine zn (zf ?_);refine cw_skip (zq (zc (zc (zp (pT (pw O1 1) ?_)))));refine pU (iv x.t) (xl (ld3 (B3.1))) ?_;refine pT (pw O5 1) ?_;refine pU (iv y.t) (xl (ld3 (B7.1))) ?_
   by_cases Be : (x.t : Int) = (y.t : Int)
   ·
    refine pU (.bool false) (ev_nne (show _ = Result.ok (Next.value (Value.bool ((x.t : Int) != (y.t : Int)))) _ from by kernel_rfl) (Be)) ?_;refine zn (cK [2,3,16] (fun L => ?_));refine zf ?_;refine cw_skip (zq (zc (zp (pT (pw O1 0) ?_))));refine pU (iv x.im) (xl (ld3 (B0.1))) ?_;refine pT (pw O5 0) ?_;refine pU (iv y.im) (xl (ld3 (B6.1))) ?_
    by_cases Bb : (x.im : Int) > (y.im : Int)
    ·
     refine pU (.bool true) (ed ((x.im : Int) > (y.im : Int)) (Bb)) ?_;refine pT (.bool true) ?_;refine zn (cw_ret (qw_ret [.bool true] rfl ⟨(by kernel_rfl), trivial⟩ ?_));exact ⟨rb (show Prod.better x y = true by unfold Prod.better Prod.bet; simp [hx, hy, Be, Bb]).symm, hE⟩
    ·
     refine pU (.bool false) (en ((x.im : Int) > (y.im : Int)) (Bb)) ?_;refine pT (.bool false) ?_;refine zn (cw_ret (qw_ret [.bool false] rfl ⟨(by kernel_rfl), trivial⟩ ?_));exact ⟨rb (show Prod.better x y = false by unfold Prod.better Prod.bet; simp [hx, hy, Be, Bb]).symm, hE⟩
   ·
    refine pU (.bool true) (eM (x.t : Int) (y.t : Int) (Be)) ?_;refine zn (cK [2,3,16] (fun L => ?_));refine zt ?_;refine zc (zp (pT (pw O1 1) ?_));refine pU (iv x.t) (xl (ld3 (B3.1))) ?_;refine pT (pw O5 1) ?_;refine pU (iv y.t) (xl (ld3 (B7.1))) ?_
    by_cases Bc : (x.t : Int) > (y.t : Int)
    ·
     refine pU (.bool true) (ed ((x.t : Int) > (y.t : Int)) (Bc)) ?_;refine pT (.bool true) ?_;refine zn (cw_ret (qw_then_ret (qw_ret [.bool true] rfl ⟨(by kernel_rfl), trivial⟩ ?_)));exact ⟨rb (show Prod.better x y = true by unfold Prod.better Prod.bet; simp [hx, hy, Be, Bc]).symm, hE⟩
    ·
     refine pU (.bool false) (en ((x.t : Int) > (y.t : Int)) (Bc)) ?_;refine pT (.bool false) ?_;refine zn (cw_ret (qw_then_ret (qw_ret [.bool false] rfl ⟨(by kernel_rfl), trivial⟩ ?_)));exact ⟨rb (show Prod.better x y = false by unfold Prod.better Prod.bet; simp [hx, hy, Be, Bc]).symm, hE⟩
theorem rBetter_r {x y : Prod.Pc} {a b : Option Addr} {k c m d : Nat} {r : Bool} (w : World) (hr : Prod.better x y = r) : Calls Tryz.prog 84 #[.agg #[.int .i64 x.im, .int .i64 x.t, .bool x.cl, .slice a k c], .agg #[.int .i64 y.im, .int .i64 y.t, .bool y.cl, .slice b m d]] w fun e w' => e = .returned (.bool r) ∧ Ext w w' := hr ▸ rBetter_c w
end Go.Proofs.YtajdohcgjgknmaaGreatDoor

namespace Go.Proofs.YtajdohcgjgknmaaGreatDoor
open Go.ChangeShapes Go.WideShapes Go.ChangeAt Go.RowKit
theorem own : ownKnob Tryz.prog.godebug = none := by kernel_rfl
theorem laidOut : laidOutB Tryz.prog = true := by kernel_rfl
def laidTabs : List (String × DataW Unit) := [("math/bits.deBruijn32tab", Rows.laid_math_bits_deBruijn32tab), ("math/bits.deBruijn64tab", Rows.laid_math_bits_deBruijn64tab)]
theorem gTab : Tryz.prog.globalNamed "math/bits.deBruijn64tab" = some 1 := by kernel_rfl
theorem tTab : (Tryz.prog.globals[1]?).map (·.type) = some 171 := by kernel_rfl
theorem door_met (os : Os) (args : Array Value) : laidMetH Tryz.prog laidTabs ((World.doorLaid Tryz.prog 19 os).forCall (fun _ _ => 0) ⟨#[], args, []⟩).memory :=
 laidMetH_of_parts3 (fuel := 8) (laidMet_of_run' 8 (by kernel_rfl) (by kernel_rfl)) (by kernel_rfl) (by kernel_rfl)
theorem tab_of_laid {W : World} (h : laidMetH Tryz.prog laidTabs W) : Tab W := by
 rw [MakeChecks.laidMetH_plain _ _ _ (by kernel_rfl)] at h
 have h2 : laidMet Tryz.prog [("math/bits.deBruijn64tab", Lib.tabData .u8 (Lib.deBruijn64tab.map Int.ofNat))] W := laidMet.tail h
 have ht := Lib.tabIs_of_head gTab tTab Tryz.underlying171 Tryz.underlying5 (by kernel_rfl) (by kernel_rfl) h2
 have hc : ∀ j, j < 64 → W.cell? ⟨1, j, none⟩ = some (.int .u8 (Lib.deBruijn64tab.getD j 0)) := fun j hj => by
  have := Lib.TabIs.cell ht gTab j (by rw [List.length_map]; exact hj)
  rw [this]
  simp [List.getD_eq_getElem?_getD, List.getElem?_map]
  rw [List.getElem?_eq_getElem (show j < Lib.deBruijn64tab.length from hj)]
  rfl
 exact ⟨World.block_lt_of_cell? W _ (hc 0 (by decide)), hc⟩
theorem isI_of_wf {n : Int} (h : (Lit.int .i64 n).wf = true) : IsI n := by
 simp [Lit.wf, IntKind.min, IntKind.max, IntKind.signed, IntKind.bits] at h
 exact ⟨by omega, by omega⟩
end Go.Proofs.YtajdohcgjgknmaaGreatDoor

namespace Go.Proofs.YtajdohcgjgknmaaGreatDoor
open Go.ChangeShapes Go.WideShapes Go.ChangeAt Go.RowKit Go.Deep
section
variable {H : Type} {enc : TypeId × Value → H} {W : World}
theorem ints_of_array {spare : Nat → Bool} {held : Bool} {t : TypeId} {k fuel : Nat} {cs : List Value} {x : DataW H × List MemPlace} (ht : Tryz.prog.underlying t = some (.array k 3)) (h : DataW.trod enc Tryz.prog W 0 spare held fuel t cs = some x) (hc : cs.length = k) :
  ∃ q : Nat → Int, ∀ j, j < k → cs[j]? = some (.int .i64 (q j)) ∧ IsI (q j) := by
 obtain ⟨xs, m, rfl, hx, hlen, hxl, hg⟩ := DataW.trod_array ht h
 have hone : Tryz.prog.cellsOf 3 = 1 := by kernel_rfl
 have each : ∀ j, j < k → ∃ n : Int, cs[j]? = some (.int .i64 n) ∧ IsI n := fun j hj => by
  have h1 := hg j hj
  rw [hone, Nat.mul_one] at h1
  have hx : xs[j]? = some (xs[j]'(by omega)) := List.getElem?_eq_getElem (by omega)
  rw [hx] at h1
  obtain ⟨n, hn, _, hw⟩ := DataW.trod_int Tryz.underlying3 h1
  have hcj : cs[j]? = some (.int .i64 n) := by
   have e : ((cs.drop j).take 1)[0]? = some (.int .i64 n) := by rw [hn]; rfl
   rw [List.getElem?_take_of_lt (by omega), List.getElem?_drop, Nat.add_zero] at e
   exact e
  exact ⟨n, hcj, isI_of_wf hw⟩
 obtain ⟨q, hq⟩ := choose_lt each
 exact ⟨q, hq⟩
end
def Quads (w : World) (v : Value) : Prop := ∃ (a : Option Addr) (n c : Nat) (q : Nat → Nat → Int), v = .slice a n c ∧ n ≤ c ∧ c ≤ 9223372036854775807 ∧ (a = none → c = 0) ∧ QAt w a n q
section
variable {H : Type} {enc : TypeId × Value → H} {W : World}
set_option maxRecDepth 100000 in
theorem open_quads {b0 : Nat} {v : Value} {d : DataW H} {p : List MemPlace} (hval : Value.okWide Tryz.prog W .any b0 23 v) (h : DataW.Trod enc Tryz.prog W 0 (fun _ => true) true 23 v d p) : Quads W v := by
  obtain ⟨a, n, c, rfl⟩ := okWide_slice Tryz.underlying23 hval
  obtain ⟨fuel, hf⟩ := h
  rcases open_slice Tryz.underlying23 hf with ⟨hcs, _⟩ | ⟨a', len, cap, m, k, D, Pl, hcs, hb, hl, hm, hmm, _, hx⟩
  · simp [Value.cells] at hcs
    obtain ⟨rfl, rfl, rfl⟩ := hcs
    exact ⟨none, 0, 0, fun _ _ => 0, rfl, by omega, by omega, fun _ => rfl, .inl rfl⟩
  · simp [Value.cells] at hcs
    obtain ⟨rfl, rfl, rfl⟩ := hcs
    unfold maxLen at hm
    rcases Nat.eq_zero_or_pos n with h0 | h0
    · exact ⟨_, _, _, fun _ _ => 0, rfl, by omega, by omega, (fun e => by cases e), .inl h0⟩
    · have h4 : Tryz.prog.cellsOf 36 = 4 := by kernel_rfl
      rw [h4] at hx
      simp only [if_true] at hmm
      subst hmm
      have each : ∀ i, i < n → ∃ q : Nat → Int, ∀ j, j < 4 → W.cell? (a'.add (i * 4 + j)) = some (.int .i64 (q j)) ∧ IsI (q j) := fun i hi => by
        obtain ⟨cs', hc1, hc2⟩ := hx i (by omega)
        obtain ⟨_, hcl, hat⟩ := World.cells?_some hc1
        obtain ⟨q, hq⟩ := ints_of_array Tryz.underlying36 hc2 hcl
        refine ⟨q, fun j hj => ⟨?_, (hq j hj).2⟩⟩
        rw [← Go.Deep.add_add, hat j hj]
        exact (hq j hj).1
      obtain ⟨q, hq⟩ := choose_lt each
      obtain ⟨b, off, spot⟩ := a'
      have hspot : spot = none := by have := World.cell?_spot (hq 0 h0 0 (by omega)).1; simpa [Addr.add] using this
      subst hspot
      refine ⟨_, _, _, q, rfl, by omega, by omega, (fun e => by cases e), .inr ⟨b, off, rfl, fun i hi j hj => ?_⟩⟩
      have := hq i hi j hj
      rw [add_plain, ← Nat.add_assoc] at this
      exact this
end
end Go.Proofs.YtajdohcgjgknmaaGreatDoor

namespace Go.Proofs.YtajdohcgjgknmaaGreatDoor
open Go.RowKit
theorem PcsS.nowS {S : Nat → Prop} {w : World} {a : Option Addr} {n : Nat} {l : List Prod.Pc} (h : PcsS S w a n l) : PcsS (fun k => S k ∧ k < w.heap.size) w a n l := by
  obtain ⟨rs, h1, h2, h3, h4⟩ := h
  refine ⟨rs, h1, h2, fun q ad e => ⟨h3 q ad e, ?_⟩, fun x hx q ad e => ⟨h4 x hx q ad e, ?_⟩⟩
  · obtain ⟨g1, g2, g3⟩ := h1
    rcases g3 with g3 | ⟨b, o, e', hx⟩
    · omega
    · rw [e] at e'; cases e'
      exact World.block_lt_of_cell? _ _ (hx 0 _ (List.getElem?_eq_getElem (by omega))).1
  · obtain ⟨i, hi⟩ := List.getElem?_of_mem hx
    obtain ⟨p, hp, e1, e2, e3, e4⟩ := h2.at hi
    exact aa_lt e4 q ad e
theorem RawsAt.take {w : World} {a : Option Addr} {n : Nat} {rs : List RawPc} (h : RawsAt w a n rs) {k : Nat} (hk : k ≤ n) : RawsAt w a k (rs.take k) := by
  obtain ⟨h1, h2, h3⟩ := h
  refine ⟨by rw [List.length_take]; omega, by omega, ?_⟩
  rcases h3 with h3 | ⟨b, o, ha, hx⟩
  · exact .inl (by omega)
  · refine .inr ⟨b, o, ha, fun i x hi => hx i x ?_⟩
    rw [List.getElem?_take] at hi
    split at hi
    · exact hi
    · cases hi
theorem RawsAt.drop {w : World} {a : Option Addr} {n : Nat} {rs : List RawPc} (h : RawsAt w a n rs) {k c : Nat} (hk : k ≤ n) (hc : n ≤ c) : RawsAt w (if c = k then a else a.map (fun x => x.add (k * 4))) (n - k) (rs.drop k) := by
  obtain ⟨h1, h2, h3⟩ := h
  refine ⟨by rw [List.length_drop, h1], by omega, ?_⟩
  by_cases h0 : n = k
  · exact .inl (by omega)
  · rcases h3 with h3 | ⟨b, o, rfl, hx⟩
    · exact .inl (by omega)
    · rw [if_neg (by omega)]
      refine .inr ⟨b, o + k * 4, by rw [Option.map_some, Addr.add_mid], fun i x hi => ?_⟩
      rw [List.getElem?_drop] at hi
      have := hx (k + i) x hi
      rwa [show o + (k + i) * 4 = o + k * 4 + i * 4 by rw [Nat.add_mul]; omega] at this
theorem Reads.take {w : World} {rs : List RawPc} {l : List Prod.Pc} (h : Reads w rs l) (k : Nat) : Reads w (rs.take k) (l.take k) := by
  have e := h.len
  refine Reads.of_at (by rw [List.length_take, List.length_take, e]) fun i x p hx hp => ?_
  rw [List.getElem?_take] at hx hp
  split at hx
  · rename_i hi
    rw [if_pos hi] at hp
    obtain ⟨q, hq, hr⟩ := h.at hx
    rw [hp] at hq; cases hq; exact hr
  · cases hx
theorem Reads.drop {w : World} {rs : List RawPc} {l : List Prod.Pc} (h : Reads w rs l) (k : Nat) : Reads w (rs.drop k) (l.drop k) := by
 have e := h.len
 refine Reads.of_at (by rw [List.length_drop, List.length_drop, e]) fun i x p hx hp => ?_
 rw [List.getElem?_drop] at hx hp
 obtain ⟨q, hq, hr⟩ := h.at hx
 rw [hp] at hq; cases hq; exact hr
theorem PcsAt.drop {w : World} {a : Option Addr} {n : Nat} {l : List Prod.Pc} (h : PcsAt w a n l) {k c : Nat} (hk : k ≤ n) (hc : n ≤ c) : PcsAt w (if c = k then a else a.map (fun x => x.add (k * 4))) (n - k) (l.drop k) := by
 obtain ⟨rs, h1, h2⟩ := h; exact ⟨_, h1.drop hk hc, h2.drop k⟩
theorem raws_own {n₀ e g n cap : Nat} {w : World} {rs : List RawPc} (h : OwnL rawR n₀ e 4 (.slice (some ⟨g, 0, none⟩) n cap) w rs) (hl : rs.length = n) (hn : n ≤ 1000) : RawsAt w (some ⟨g, 0, none⟩) n rs := by
 have := holds_raws (own_holds h hl) (by omega)
 rwa [hl] at this
theorem app_raws {n₀ : Nat} {w : World} {l xs : List RawPc} {g0 k cap0 m c : Nat} {a : Option Addr} (h : OwnL rawR n₀ 49 4 (.slice (some ⟨g0, 0, none⟩) k cap0) w l) (hn : n₀ ≤ w.heap.size) (hl : l.length = k) (hk : k ≤ cap0) (hx : RawsAt w a m xs) (hb : k + m ≤ 1000) :
    ∃ g cap w', (Builtin.append_ #[30, 30] 30 #[.slice (some ⟨g0, 0, none⟩) k cap0, .slice a m c]).run Tryz.prog w = .ok (.slice (some ⟨g, 0, none⟩) (k + m) cap) w' ∧ OwnL rawR n₀ 49 4 (.slice (some ⟨g, 0, none⟩) (k + m) cap) w' (l ++ xs) ∧ Grew n₀ w w' ∧ w.grownBy w' (some g0) ∧ k + m ≤ cap ∧ (g = g0 ∨ w.heap.size ≤ g) := by
  obtain ⟨h1, h2, h3⟩ := hx
  rcases Nat.eq_zero_or_pos m with h0 | h0
  · subst h0
    obtain rfl := List.eq_nil_of_length_eq_zero h1
    refine ⟨g0, cap0, w, app_none pieceT hk, by rw [List.append_nil]; exact h, ⟨Nat.le_refl _, fun U hU _ => hU⟩, ⟨rfl, rfl, rfl, Nat.le_refl _, fun _ _ _ => rfl⟩, hk, .inl rfl⟩
  · rcases h3 with h3 | ⟨b, o, rfl, hx⟩
    · omega
    subst hl
    obtain ⟨cs, q2, q3, q4, q5⟩ := h
    obtain ⟨i, hi, hz0, hz1, hz2⟩ := info_parts (pieceT).info
    have hds : ∀ d ∈ xs.map RawPc.enc, d.length = 4 := fun d hd => by obtain ⟨x, _, rfl⟩ := List.mem_map.1 hd; rfl
    have hone : ∀ u ∈ (xs.map RawPc.enc).flatten, u.oneCell' = true := fun u hu => by
      obtain ⟨d, hd, hu⟩ := List.mem_flatten.1 hu
      obtain ⟨x, _, rfl⟩ := List.mem_map.1 hd
      exact enc_one x u hu
    obtain ⟨v', w', hrun, hown, hg, hiff, hat⟩ := run_append_own_at (P := Tryz.prog) w n₀ 30 30 49 i _ 4 48 (pieceT).under hi hz0 hz1 hz2 (pieceT).zs (pieceT).pos _ l.length cs.flatten q4 ⟨b, o, none⟩ m c (xs.map RawPc.enc).flatten (by rw [flatten_len hds, List.length_map, h1]) (raws_flat hx) hone (by unfold maxLen; omega) (by omega) hn
    rcases hown.2 with ⟨q, _⟩ | ⟨g, cap, cur, q, _, _, hc9, _⟩
    · have := (hiff.1 q).2; omega
    · subst q
      refine ⟨g, cap, w', hrun, ⟨cs ++ xs.map RawPc.enc, by simp [q2], ?_, by rw [List.flatten_append, List.length_append, h1]; exact hown, ?_⟩, ⟨hg.size, fun U hU hUn => Ext.own' hU q4 hUn hg⟩, hg, hc9, ?_⟩
      · intro d hd
        rcases List.mem_append.1 hd with hd | hd
        · exact q3 d hd
        · exact hds d hd
      · intro j x d hx' hd
        rcases Nat.lt_or_ge j l.length with hj | hj
        · rw [List.getElem?_append_left hj] at hx'
          rw [List.getElem?_append_left (by rw [q2]; exact hj)] at hd
          obtain ⟨F, ⟨k1, k2⟩, _⟩ := q5 j x d hx' hd
          exact ⟨[], ⟨k1, rfl⟩, fun b hb => by cases hb⟩
        · rw [List.getElem?_append_right hj] at hx'
          rw [List.getElem?_append_right (by rw [q2]; exact hj), q2, List.getElem?_map, hx'] at hd
          cases hd
          exact ⟨[], ⟨rfl, rfl⟩, fun b hb => by cases hb⟩
      · rcases hat with e1 | e1
        · exact .inl (Option.some.inj e1)
        · exact .inr (Nat.le_of_eq (Option.some.inj e1).symm)
end Go.Proofs.YtajdohcgjgknmaaGreatDoor

namespace Go.Proofs.YtajdohcgjgknmaaGreatDoor
open Go.RowKit
set_option maxHeartbeats 1000000 in
theorem rHas_c {w0 : World} {a : Option Addr} {l : List Int} {n : Nat} (c : Nat) {v : Bool} (x y : Int) (w : World) (h : AA w0 a l n v) (hE : Ext w0 w) :
    Calls Tryz.prog 120 #[.agg #[.slice a n c], .agg #[.int .i64 x, .int .i64 y]] w fun e w' => e = .returned (.bool (hasB l x y)) ∧ Ext w w' := by
  replace h := h.ext hE; clear hE
  have hv := h.2.2.2
  have hh : hasB l x y = (v && Globe.vcB x y && Globe.hasL l x.toNat y.toNat) := by unfold hasB; rw [hv]
  rw [hh]
  clear hh
  cases v
  · have H := Lib.hid h; clear h hv
    go_enter Tryz.func120, Tryz.ntmps120
    go_wp2_with (first | (go_at_call 74; refine (rValid_c _ _ H.out (by (repeat' (first | (with_reducible assumption) | (with_reducible exact Ext.refl _) | (with_reducible refine Ext.alloc ?_ _) | (with_reducible refine Ext.drew ?_) | (with_reducible refine Ext.drewN ?_ _) | (with_reducible refine Ext.setCell ?_ ?_ _) | (with_reducible refine Ext.trans ?_ (by assumption)) | go_size)))).mono ?_; rintro e w1 ⟨rfl, hb⟩; have hc := hb.cellE; have hf := hb.frozenE; have hz := hb.size; have ha := alloc_keeps w1; (try simp only [World.size_alloc] at hc hf hz); (try simp only [World.size_setCell] at hc hf hz); (try simp only [World.size_drew] at hc hf hz)))
    go_ret
    exact ⟨rfl, by (repeat' (first | (with_reducible assumption) | (with_reducible exact Ext.refl _) | (with_reducible refine Ext.alloc ?_ _) | (with_reducible refine Ext.drew ?_) | (with_reducible refine Ext.drewN ?_ _) | (with_reducible refine Ext.setCell ?_ ?_ _) | (with_reducible refine Ext.trans ?_ (by assumption)) | go_size))⟩
  · cases h1 : Globe.vcB x y
    · have H := Lib.hid h; clear h hv
      go_enter Tryz.func120, Tryz.ntmps120
      go_wp2_with (first | (go_at_call 74; refine (rValid_c _ _ H.out (by (repeat' (first | (with_reducible assumption) | (with_reducible exact Ext.refl _) | (with_reducible refine Ext.alloc ?_ _) | (with_reducible refine Ext.drew ?_) | (with_reducible refine Ext.drewN ?_ _) | (with_reducible refine Ext.setCell ?_ ?_ _) | (with_reducible refine Ext.trans ?_ (by assumption)) | go_size)))).mono ?_; rintro e w1 ⟨rfl, hb⟩; have hc := hb.cellE; have hf := hb.frozenE; have hz := hb.size; have ha := alloc_keeps w1; (try simp only [World.size_alloc] at hc hf hz); (try simp only [World.size_setCell] at hc hf hz); (try simp only [World.size_drew] at hc hf hz)) | (go_at_call 137; refine (rValidCell_c _ _ _).mono ?_; rw [h1]; rintro e w2 ⟨rfl, B0⟩; have B2 := B0.cellE; have B3 := B0.frozenE; have B4 := B0.size; have B6 := alloc_keeps w2; (try simp only [World.size_alloc] at B2 B3 B4); (try simp only [World.size_setCell] at B2 B3 B4); (try simp only [World.size_drew] at B2 B3 B4)))
      go_ret
      exact ⟨rfl, by (repeat' (first | (with_reducible assumption) | (with_reducible exact Ext.refl _) | (with_reducible refine Ext.alloc ?_ _) | (with_reducible refine Ext.drew ?_) | (with_reducible refine Ext.drewN ?_ _) | (with_reducible refine Ext.setCell ?_ ?_ _) | (with_reducible refine Ext.trans ?_ (by assumption)) | go_size))⟩
    · obtain ⟨x0, x1, y0, y1⟩ := Globe.vcB_t.1 h1
      obtain ⟨b, o, rfl, rfl, r⟩ := h.va
      obtain ⟨X, rfl⟩ := Int.eq_ofNat_of_zero_le x0
      obtain ⟨Y, rfl⟩ := Int.eq_ofNat_of_zero_le y0
      have H := Lib.hid r; clear h hv r
      rw [Int.toNat_natCast, Int.toNat_natCast]
      go_enter Tryz.func120, Tryz.ntmps120
      go_wp2_with (first | (go_at_call 74; refine (rValid_c _ _ H.out.aa (by (repeat' (first | (with_reducible assumption) | (with_reducible exact Ext.refl _) | (with_reducible refine Ext.alloc ?_ _) | (with_reducible refine Ext.drew ?_) | (with_reducible refine Ext.drewN ?_ _) | (with_reducible refine Ext.setCell ?_ ?_ _) | (with_reducible refine Ext.trans ?_ (by assumption)) | go_size)))).mono ?_; rintro e w1 ⟨rfl, hb⟩; have hc := hb.cellE; have hf := hb.frozenE; have hz := hb.size; have ha := alloc_keeps w1; (try simp only [World.size_alloc] at hc hf hz); (try simp only [World.size_setCell] at hc hf hz); (try simp only [World.size_drew] at hc hf hz)) | (go_at_call 137; refine (rValidCell_c _ _ _).mono ?_; rw [h1]; rintro e w2 ⟨rfl, B0⟩; have B2 := B0.cellE; have B3 := B0.frozenE; have B4 := B0.size; have B6 := alloc_keeps w2; (try simp only [World.size_alloc] at B2 B3 B4); (try simp only [World.size_setCell] at B2 B3 B4); (try simp only [World.size_drew] at B2 B3 B4)) | (go_at_call 119; refine (rhas_v _ _ H.out (by (repeat' (first | (with_reducible assumption) | (with_reducible exact Ext.refl _) | (with_reducible refine Ext.alloc ?_ _) | (with_reducible refine Ext.drew ?_) | (with_reducible refine Ext.drewN ?_ _) | (with_reducible refine Ext.setCell ?_ ?_ _) | (with_reducible refine Ext.trans ?_ (by assumption)) | go_size))) (by omega) (by omega) rfl).mono ?_; rintro e w3 ⟨rfl, B7⟩))
      go_ret
      exact ⟨rfl, by (repeat' (first | (with_reducible assumption) | (with_reducible exact Ext.refl _) | (with_reducible refine Ext.alloc ?_ _) | (with_reducible refine Ext.drew ?_) | (with_reducible refine Ext.drewN ?_ _) | (with_reducible refine Ext.setCell ?_ ?_ _) | (with_reducible refine Ext.trans ?_ (by assumption)) | go_size))⟩
theorem rValid_q {v r : Bool} {w0 : World} {a : Option Addr} {l : List Int} {n : Nat} (c : Nat) (w : World) (h : AA w0 a l n v) (hE : Ext w0 w) (hr : v = r) : Calls Tryz.prog 74 #[.agg #[.slice a n c]] w fun e w' => e = .returned (.bool r) ∧ Ext w w' := hr ▸ rValid_c c w h hE
theorem rHas_q {a : Option Addr} {l : List Int} {n : Nat} {b r : Bool} (c : Nat) {x y : Int} {w0 : World} (w : World) (h : AA w0 a l n b) (hE : Ext w0 w) (hr : hasB l x y = r) : Calls Tryz.prog 120 #[.agg #[.slice a n c], .agg #[.int .i64 x, .int .i64 y]] w fun e w' => e = .returned (.bool r) ∧ Ext w w' := hr ▸ rHas_c c x y w h hE
theorem rContains_q {w1 w2 : World} {a1 : Option Addr} {l1 : List Int} {n1 : Nat} (c1 : Nat) {v1 : Bool} {a2 : Option Addr} {l2 : List Int} {n2 : Nat} (c2 : Nat) {v2 r : Bool} (w : World) (h1 : AA w1 a1 l1 n1 v1) (e1 : Ext w1 w) (h2 : AA w2 a2 l2 n2 v2) (e2 : Ext w2 w) (hr : Globe.containsB l1 l2 = r) :
  Calls Tryz.prog 83 #[.agg #[.slice a1 n1 c1], .agg #[.slice a2 n2 c2]] w fun e w' => e = .returned (.bool r) ∧ Ext w w' := hr ▸ rContains_c c1 c2 w h1 e1 h2 e2
theorem rCount_v {w0 : World} {b o : Nat} (c : Nat) {l : List Int} (w : World) (h : VA w0 b o l) (hE : Ext w0 w) : Calls Tryz.prog 82 #[.agg #[.slice (some ⟨b, o, none⟩) 24 c]] w fun e w' => e = .returned (.int .i64 (((Globe.cellsTo l 24).length : Nat) : Int)) ∧ Ext w w' :=
 (rCount_c c w h.aa hE).mono fun _ _ ⟨q, k⟩ => ⟨by rw [q]; unfold Globe.countL Globe.cellsL; rw [h.2]; rfl, k⟩
theorem rEmpty_v (w : World) : Calls Tryz.prog 38 #[] w fun e w' => ∃ B : Nat, e = .returned (.agg #[.slice (some ⟨B, 0, none⟩) 24 24]) ∧ w.heap.size ≤ B ∧ VA w' B 0 Globe.zeroL ∧ Ext w w' := (rEmpty_c w).mono fun _ _ ⟨B, h1, h2, h3, h4⟩ => ⟨B, h1, h2, h3.va (by decide), h4⟩
theorem PcsAt.getA {w : World} {b o n : Nat} {l : List Prod.Pc} (h : PcsAt w (some ⟨b, o, none⟩) n l) {i : Nat} (hi : i < n) :
  ∃ (p : Prod.Pc) (ar : Option Addr) (k c : Nat), l[i]? = some p ∧ w.cell? ⟨b, o + i * 4, none⟩ = some (.int .i64 p.im) ∧ w.cell? ⟨b, o + i * 4 + 1, none⟩ = some (.int .i64 p.t) ∧ w.cell? ⟨b, o + i * 4 + 2, none⟩ = some (.bool p.cl) ∧
   w.cell? ⟨b, o + i * 4 + 3, none⟩ = some (.slice ar k c) ∧ AA w ar p.rw k (Globe.validL p.rw) := by
 obtain ⟨b', o', p, ar, k, c, e, h1, h2, h3, h4, h5, h6⟩ := h.at hi
 cases e
 exact ⟨p, ar, k, c, h1, h2, h3, h4, h5, h6⟩
theorem one_pcs {S : Nat → Prop} {w : World} {O : Nat} {x : Prod.Pc} {ax : Option Addr} {kx cx : Nat} {v : Bool} (d0 : w.cell? ⟨O, 0, none⟩ = some (.int .i64 x.im)) (d1 : w.cell? ⟨O, 1, none⟩ = some (.int .i64 x.t)) (d2 : w.cell? ⟨O, 2, none⟩ = some (.bool x.cl)) (d3 : w.cell? ⟨O, 3, none⟩ = some (.slice ax kx cx)) (hx : AA w ax x.rw kx v) (hO : S O) (hA : ∀ ad, ax = some ad → S ad.block) : PcsS S w (some ⟨O, 0, none⟩) 1 [x] := by
  refine ⟨[⟨x.im, x.t, x.cl, ax, kx, cx⟩], ⟨rfl, by omega, .inr ⟨O, 0, rfl, fun i y hy => ?_⟩⟩, ⟨⟨rfl, rfl, rfl, hx.1, hx.2.1, hx.2.2.1, rfl⟩, trivial⟩, fun _ ad e => by cases e; exact hO, fun y hy _ ad e => ?_⟩
  · cases i with
    | zero => simp at hy; subst hy; exact ⟨d0, d1, d2, d3⟩
    | succ i => simp at hy
  · rw [List.mem_singleton.1 hy] at e; exact hA ad e
theorem PcsAt.dropS {w : World} {b o n : Nat} {l : List Prod.Pc} (h : PcsAt w (some ⟨b, o, none⟩) n l) {k : Nat} (hk : k < n) : PcsAt w (some ⟨b, o + k * 4, none⟩) (n - k) (l.drop k) := by
 have := h.drop (k := k) (c := n) (by omega) (Nat.le_refl n)
 rwa [if_neg (by omega), Option.map_some, Addr.add_mid] at this
theorem PcsS.drop {S : Nat → Prop} {w : World} {a : Option Addr} {n : Nat} {l : List Prod.Pc} (h : PcsS S w a n l) {k c : Nat} (hk : k ≤ n) (hc : n ≤ c) : PcsS S w (if c = k then a else a.map (fun x => x.add (k * 4))) (n - k) (l.drop k) := by
 obtain ⟨rs, h1, h2, h3, h4⟩ := h
 refine ⟨_, h1.drop hk hc, h2.drop k, fun q ad e => ?_, fun x hx q ad e => h4 x (List.mem_of_mem_drop hx) q ad e⟩
 rw [if_neg (by omega)] at e
 obtain ⟨ad', ha, rfl⟩ := Option.map_eq_some_iff.1 e
 have := h3 (by omega) ad' ha
 rcases h1.2.2 with q | ⟨b, o, e, _⟩
 · omega
 · rw [e] at ha; cases ha; rw [Addr.add_mid]; exact this
theorem app_list {S : Nat → Prop} {w : World} {a b : Option Addr} {n m c : Nat} {l t : List Prod.Pc} (h : PcsS S w a n l) (hp : Pl a) (k : PcsS S w b m t) (hS : ∀ k, w.heap.size ≤ k → S k) (hn : n + m ≤ 1000) :
    ∃ g cap w', (Builtin.append_ #[30, 30] 30 #[.slice a n n, .slice b m c]).run Tryz.prog w = .ok (.slice g (n + m) cap) w' ∧ PcsS S w' g (n + m) (l ++ t) ∧ n + m ≤ cap ∧ Pl g ∧ Ext w w' := by
  rcases Nat.eq_zero_or_pos m with h0 | h0
  · subst h0
    have ht : t = [] := List.eq_nil_of_length_eq_zero k.pcs.len
    subst ht
    exact ⟨a, n, w, app_none pieceT (Nat.le_refl n), by rw [List.append_nil]; exact h, by omega, hp, Ext.refl _⟩
  obtain ⟨rs, ⟨r1, r2, r3⟩, hrd, hb1, hb2⟩ := h
  obtain ⟨ys, ⟨s1, s2, s3⟩, hrd2, hc1, hc2⟩ := k
  obtain ⟨i0, hi, hz0, hz1, hz2⟩ := info_parts (pieceT).info
  have hc : ∀ rs : List RawPc, ∀ c ∈ rs.map RawPc.enc, c.length = 4 := fun rs c hc => by obtain ⟨x, _, rfl⟩ := List.mem_map.1 hc; rfl
  rcases s3 with s3 | ⟨b', o', rfl, hy⟩
  · omega
  have hone : ∀ u ∈ (ys.map RawPc.enc).flatten, u.oneCell' = true := fun u hu => by
    obtain ⟨d, hd, hu⟩ := List.mem_flatten.1 hu
    obtain ⟨x, _, rfl⟩ := List.mem_map.1 hd
    exact enc_one x u hu
  have hrun : ∃ v' w', (Builtin.append_ #[30, 30] 30 #[.slice a n n, .slice (some ⟨b', o', none⟩) m c]).run Tryz.prog w = .ok v' w' ∧ w'.ownsRow w.heap.size 49 4 v' (n + m) ((rs.map RawPc.enc).flatten ++ (ys.map RawPc.enc).flatten) ∧ w.grownBy w' none := by
    rcases hp with rfl | ⟨b, o, rfl⟩
    · have h0 : n = 0 := by
        rcases r3 with r3 | ⟨b, o, e, _⟩
        · exact r3
        · cases e
      subst h0
      obtain rfl : rs = [] := List.eq_nil_of_length_eq_zero r1
      obtain ⟨v', w', q1, q2, q3, _⟩ := run_append_own (P := Tryz.prog) w w.heap.size 30 30 49 i0 _ 4 48 (pieceT).under hi hz0 hz1 hz2 (pieceT).zs (pieceT).pos (.slice none 0 0) 0 [] (World.ownsRow_nil w _ _ _) ⟨b', o', none⟩ m c (ys.map RawPc.enc).flatten (by rw [flatten_len (hc ys), List.length_map, s1]) (raws_flat hy) hone (by unfold maxLen; omega) (by omega) (Nat.le_refl _)
      exact ⟨v', w', q1, q2, q3⟩
    · have hb : ∀ (i : Nat) x, rs[i]? = some x → RawAt w b (o + i * 4) x := by
        rcases r3 with r3 | ⟨b', o', e, hx⟩
        · subst r3; obtain rfl : rs = [] := List.eq_nil_of_length_eq_zero r1
          intro i x hx; simp at hx
        · cases e; exact hx
      exact run_append_arg_grows (P := Tryz.prog) w 30 30 49 i0 _ 4 48 (pieceT).under hi hz0 hz1 hz2 (pieceT).zs (pieceT).pos ⟨b, o, none⟩ n n _ (by rw [flatten_len (hc rs), List.length_map, r1]) (raws_flat hb) ⟨b', o', none⟩ m c (ys.map RawPc.enc).flatten (by rw [flatten_len (hc ys), List.length_map, s1]) (raws_flat hy) (by omega) (by unfold maxLen; omega) (by omega)
  obtain ⟨v', w', hr, hown, hg⟩ := hrun
  have hE : Ext w w' := ⟨hg.os, hg.tape, hg.output, hg.size, fun k hk => hg.block k hk (by simp)⟩
  have hfl : (rs.map RawPc.enc).flatten ++ (ys.map RawPc.enc).flatten = ((rs ++ ys).map RawPc.enc).flatten := by simp
  rw [hfl] at hown
  have hlt := hown.lt
  rcases hown.2 with ⟨_, q⟩ | ⟨g, cap, cur, rfl, _, _, hcap, _⟩
  · omega
  · refine ⟨some ⟨g, 0, none⟩, cap, w', hr, ⟨rs ++ ys, ⟨by simp [r1, s1], by omega, .inr ⟨g, 0, rfl, fun i z hz => ?_⟩⟩, (hrd.ext hE).app (hrd2.ext hE), fun _ ad e => ?_, fun x hx q ad e => ?_⟩, hcap, .inr ⟨g, 0, rfl⟩, hE⟩
    · have hil : i < n + m := by have := (List.getElem?_eq_some_iff.1 hz).1; simp [r1, s1] at this; exact this
      have k : ∀ q, q < 4 → w'.cell? ⟨g, 0 + i * 4 + q, none⟩ = z.enc[q]? := fun q hq => by
        have f := flatten_get (hc (rs ++ ys)) i (c := z.enc) (by rw [List.getElem?_map, hz]; rfl) q hq
        rw [show 0 + i * 4 + q = i * 4 + q by omega, hown.cellAt _ (by omega), f]
      exact ⟨k 0 (by omega), k 1 (by omega), k 2 (by omega), k 3 (by omega)⟩
    · cases e
      exact hS _ (hlt g rfl).1
    · rcases List.mem_append.1 hx with hx | hx
      · exact hb2 x hx q ad e
      · exact hc2 x hx q ad e
theorem PcsAt.S {w : World} {a : Option Addr} {n : Nat} {l : List Prod.Pc} (h : PcsAt w a n l) : PcsS (fun _ => True) w a n l := h.now.mono fun _ _ => trivial
namespace Prod
def hdR (ar : List Int) (pre : List Pc) (x : Pc) : Bool := okP x && (!noC x.rw && (Globe.containsB ar x.rw && (match pre.getLast? with | none => true | some p => better x p)))
theorem stepR_hd (ar : List Int) (pre : List Pc) (x : Pc) : stepR ar pre x = (hdR ar pre x && apart pre x) := rfl
theorem hd_step {ar : List Int} {pre : List Pc} {x p0 : Pc} (h4 : pre.getLast? = some p0) : hdR ar pre x = (okP x && (!noC x.rw && (Globe.containsB ar x.rw && better x p0))) := by unfold hdR; rw [h4]
theorem validP_r {id ver : Int} {ar : List Int} {ps : List Pc} (ha : Globe.validL ar = true) : validP id ver ar ps = (headOk id ver ar ps.length && rGo ar [] ps) := by unfold validP; rw [rGo_all ha]
theorem noC_pos {l : List Int} : noC l = false ↔ (0 : Int) < (((Globe.cellsTo l 24).length : Nat) : Int) := by unfold noC; rw [decide_eq_false_iff_not]; omega
theorem ok_take {ps : List Pc} {i : Nat} {p : Pc} (h : ∀ q ∈ ps.take i, okP q = true) (hp : ps[i]? = some p) (ho : okP p = true) : ∀ q ∈ ps.take (i + 1), okP q = true := fun q hq => by
  rw [List.take_add_one, hp] at hq
  rcases List.mem_append.1 hq with hq | hq
  · exact h q hq
  · have e : q = p := by simpa using hq
    rw [e]; exact ho
theorem ok_at {ps : List Pc} {i k : Nat} {q : Pc} (h : ∀ q ∈ ps.take i, okP q = true) (hk : k < i) (hq : ps[k]? = some q) : okP q = true := h q (List.mem_of_getElem? (i := k) (by rw [List.getElem?_take, if_pos hk]; exact hq))
end Prod
end Go.Proofs.YtajdohcgjgknmaaGreatDoor

namespace Go.Proofs.YtajdohcgjgknmaaGreatDoor
set_option maxRecDepth 1000000
set_option maxHeartbeats 4000000
set_option synthInstance.maxHeartbeats 0
set_option synthInstance.maxSize 9999
open Go.RowKit
def Tz51_0 : List Row := [(some 12, [5], []), (some 13, [3], []), (some 14, [13], [1]), (some 15, [12, 14], [0, 2]), (some 16, [15], [3]), (some 17, [0, 16], [4]), (some 18, [4, 16], [4]), (some 19, [17, 18, 16], [5, 6, 4]), (some 20, [19, 16], [7, 4]), (some 21, [3, 16], [4]), (some 22, [5, 16], [4]), (some 23, [21, 22, 16], [9, 10, 4]), (some 24, [23, 16], [11, 4]), (some 25, [20, 24, 16], [8, 12, 4, 4]), (some 26, [16, 25], [4, 13])]
def Tz51_1 : List Row := [(some 29, [3], []), (some 30, [5], []), (some 31, [5], []), (some 32, [29, 30, 31], [0, 1, 2]), (some 33, [0], []), (some 34, [4], []), (some 35, [33, 34], [4, 5]), (some 36, [35], [6]), (some 37, [36], [7]), (some 38, [3], []), (some 39, [5], []), (some 40, [38, 39], [9, 10]), (some 41, [37, 40], [8, 11]), (some 42, [32, 41], [3, 12, 12]), (some 3, [42], [13, 13, 0, 1, 2, 3, 4, 5, 6, 7, 8, 9, 10, 11, 12, 13])]
theorem rin_c (n lo hi : Int) (w : World) : Calls Tryz.prog 81 #[iv n, iv lo, iv hi] w fun e w' => e = .returned (.bool (Globe.inB n lo hi)) ∧ Ext w w' := by
 refine calls_cw 15 [(2, iv hi), (1, iv lo), (0, iv n)] Tryz.func81 rfl Tryz.ntmps81 (by kernel_rfl) (by kernel_rfl) (fun L => ?_);have hE := Ext.refl w;refine zc (zp (pT (.bool false) ?_));refine zn (zc (zp (pD (iv n) (iv lo) ?_)))
 by_cases hc1 : (n : Int) ≥ (lo : Int)
 ·
  refine pU (.bool true) (ed ((n : Int) ≥ (lo : Int)) (hc1)) ?_;refine pD (.bool true) (iv n) ?_;refine pT (iv hi) ?_
  by_cases hc2 : (n : Int) ≤ (hi : Int)
  ·
   refine pU (.bool true) (ed ((n : Int) ≤ (hi : Int)) (hc2)) ?_;refine pD (.bool true) (.bool true) ?_;refine zn (cw_ret (qw_ret [.bool true] rfl ⟨(by kernel_rfl), trivial⟩ ?_));exact ⟨rb (by first | exact (decide_eq_true (by omega)).symm | exact (decide_eq_false (by omega)).symm), hE⟩
  ·
   refine pU (.bool false) (en ((n : Int) ≤ (hi : Int)) (hc2)) ?_;refine pD (.bool false) (.bool false) ?_;refine zn (cw_ret (qw_ret [.bool false] rfl ⟨(by kernel_rfl), trivial⟩ ?_));exact ⟨rb (by first | exact (decide_eq_true (by omega)).symm | exact (decide_eq_false (by omega)).symm), hE⟩
 ·
  refine pU (.bool false) (en ((n : Int) ≥ (lo : Int)) (hc1)) ?_;refine pT (.bool false) ?_;refine pK ?_;refine pK ?_;refine pK ?_;refine pD (.bool false) (.bool false) ?_;refine zn (cw_ret (qw_ret [.bool false] rfl ⟨(by kernel_rfl), trivial⟩ ?_));exact ⟨rb (by first | exact (decide_eq_true (by omega)).symm | exact (decide_eq_false (by omega)).symm), hE⟩
theorem rin_r (n lo hi : Int) {r : Bool} (w : World) (hr : Globe.inB n lo hi = r) : Calls Tryz.prog 81 #[.int .i64 n, .int .i64 lo, .int .i64 hi] w fun e w' => e = .returned (.bool r) ∧ Ext w w' := hr ▸ rin_c n lo hi w
theorem rPiece_c {w0 : World} {x : Prod.Pc} {a : Option Addr} {k c : Nat} (w : World) (hA : AA w0 a x.rw k (Globe.validL x.rw)) (e0 : Ext w0 w) : Calls Tryz.prog 75 #[.agg #[iv x.im, iv x.t, .bool x.cl, .slice a k c]] w fun e w' => e = .returned (.bool (Prod.okP x)) ∧ Ext w w' := by
 refine calls_cw 16 [(0, .agg #[iv x.im, iv x.t, .bool x.cl, .slice a k c])] Tryz.func75 rfl Tryz.ntmps75 (by kernel_rfl) (by kernel_rfl) (fun L => ?_);have hE := Ext.refl w;refine zc (zp (pS (sw 49 #[iv x.im, iv x.t, .bool x.cl, .slice a k c] ?_)));intro O1 X2 Bh Bi hb hbx;have ⟨B0, B3, B4, B2⟩ := bq4 hbx;refine mv2 hb e0 hE fun e0 hE=>?_;have Bk := hb.size;have Bj := B0.lt;refine pT (.bool false) ?_;refine zn (zc (zp (pT (pw O1 0) ?_)));refine pU (iv x.im) (xl (ld3 (B0.1))) ?_;rcases Bool.eq_false_or_eq_true (Globe.inB x.im 0 999) with B7 | B7
 ·
  refine pS (sc 81 #[iv x.im, iv 0, iv 999] ((rin_r (r := true) x.im 0 999 _ (B7)).mono ?_));rintro e w6 ⟨rfl, hb⟩;refine mv4 hb e0 hE B3 B2 fun e0 hE B3 B2=>?_;have Bp := hb.size;refine ⟨_, rfl, pD (.bool true) (pw O1 1) ?_⟩;refine pU (iv x.t) (xl (ld3 (B3.1))) ?_;rcases Bool.eq_false_or_eq_true (Globe.inB x.t 0 1000000) with Ba | Ba
  ·
   refine pS (sc 81 #[iv x.t, iv 0, iv 1000000] ((rin_r (r := true) x.t 0 1000000 _ (Ba)).mono ?_));rintro e w9 ⟨rfl, hb⟩;refine mv3 hb e0 hE B2 fun e0 hE B2=>?_;have Bc := hb.size;refine ⟨_, rfl, pD (.bool true) (.bool true) ?_⟩;refine pT (pw O1 3) ?_;refine pU (.agg #[.slice a k c]) (xl (ld33 (B2.1))) ?_;rcases Bool.eq_false_or_eq_true (Globe.validL x.rw) with B6 | B6
   ·
    refine pS (sc 74 #[.agg #[.slice a k c]] ((rValid_q (r := true) _ _ (hA) e0 B6).mono ?_));rintro e Bq ⟨rfl, hb⟩;refine mv2 hb e0 hE fun e0 hE=>?_;have Bf := hb.size;refine ⟨_, rfl, pD (.bool true) (.bool true) ?_⟩;refine zn (cK [2] (fun L => ?_));refine cw_ret (qw_ret [.bool true] rfl ⟨(by kernel_rfl), trivial⟩ ?_);exact ⟨rb (show Prod.okP x = true by simp [Prod.okP, B7, Ba, B6]).symm, hE⟩
   ·
    refine pS (sc 74 #[.agg #[.slice a k c]] ((rValid_q (r := false) _ _ (hA) e0 B6).mono ?_));rintro e Bo ⟨rfl, hb⟩;replace hE := hE.trans hb;have Bg := hb.size;refine ⟨_, rfl, pD (.bool false) (.bool false) ?_⟩;refine zn (cK [2] (fun L => ?_));refine cw_ret (qw_ret [.bool false] rfl ⟨(by kernel_rfl), trivial⟩ ?_);exact ⟨rb (show Prod.okP x = false by simp [Prod.okP, B7, Ba, B6]).symm, hE⟩
  ·
   refine pS (sc 81 #[iv x.t, iv 0, iv 1000000] ((rin_r (r := false) x.t 0 1000000 _ (Ba)).mono ?_));rintro e Bm ⟨rfl, hb⟩;replace hE := hE.trans hb;have Be := hb.size;refine ⟨_, rfl, pD (.bool false) (.bool false) ?_⟩;refine pK ?_;refine pK ?_;refine pK ?_;refine pD (.bool false) (.bool false) ?_;refine zn (cK [2] (fun L => ?_));refine cw_ret (qw_ret [.bool false] rfl ⟨(by kernel_rfl), trivial⟩ ?_);exact ⟨rb (show Prod.okP x = false by simp [Prod.okP, B7, Ba]).symm, hE⟩
 ·
  refine pS (sc 81 #[iv x.im, iv 0, iv 999] ((rin_r (r := false) x.im 0 999 _ (B7)).mono ?_));rintro e Bl ⟨rfl, hb⟩;replace hE := hE.trans hb;have Bb := hb.size;refine ⟨_, rfl, pT (.bool false) ?_⟩;refine pK ?_;refine pK ?_;refine pK ?_;refine pD (.bool false) (.bool false) ?_;refine pK ?_;refine pK ?_;refine pK ?_;refine pD (.bool false) (.bool false) ?_;refine zn (cK [2] (fun L => ?_));refine cw_ret (qw_ret [.bool false] rfl ⟨(by kernel_rfl), trivial⟩ ?_);exact ⟨rb (show Prod.okP x = false by simp [Prod.okP, B7]).symm, hE⟩
theorem rPiece_r {w0 : World} {x : Prod.Pc} {a : Option Addr} {k c : Nat} {r v : Bool} (w : World) (hA : AA w0 a x.rw k v) (e0 : Ext w0 w) (hr : Prod.okP x = r) : Calls Tryz.prog 75 #[.agg #[.int .i64 x.im, .int .i64 x.t, .bool x.cl, .slice a k c]] w fun e w' => e = .returned (.bool r) ∧ Ext w w' := by
 obtain rfl := hA.2.2.2; exact hr ▸ rPiece_c w hA e0
theorem rless_v {w1 w2 : World} {b1 o1 b2 o2 : Nat} (c1 c2 : Nat) {l1 l2 : List Int} (w : World) (h1 : VA w1 b1 o1 l1) (e1 : Ext w1 w) (h2 : VA w2 b2 o2 l2) (e2 : Ext w2 w) : Calls Tryz.prog 76 #[.agg #[sv b1 o1 24 c1], .agg #[sv b2 o2 24 c2]] w fun e w' => ∃ B k : Nat, e = .returned (.agg #[sv B 0 24 k]) ∧ w.heap.size ≤ B ∧ VA w' B 0 (Globe.lessL l1 l2) ∧ Ext w w' := by
 replace h1 := h1.ext e1;replace h2 := h2.ext e2;clear e1 e2;have C7 := h1.lt;have C4 := h2.lt;refine calls_cw 17 [(1, .agg #[sv b2 o2 24 c2]), (0, .agg #[sv b1 o1 24 c1])] Tryz.func76 rfl Tryz.ntmps76 (by kernel_rfl) (by kernel_rfl) (fun L => ?_);have hE := Ext.refl w;refine zc (zp (pS (sw 33 #[sv b1 o1 24 c1] ?_)));intro O1 X2 Bu C2 hb hbx;have B0 := bq1 hbx;replace hE := hE.trans hb;have Bl := hb.size;have Bq := B0.lt;refine pS (sw 33 #[sv b2 o2 24 c2] ?_);intro O5 X6 C0 Bx hb hbx;have B4 := bq1 hbx;refine mv2 hb hE B0 fun hE B0=>?_;have Bj := hb.size;have Br := B4.lt;refine pS (sw 33 #[.slice none 0 0] ?_);intro O9 C5 Bg Bs hb hbx;have B2 := bq1 hbx;refine mv3 hb hE B0 B4 fun hE B0 B4=>?_;have Bb := hb.size;have Bf := B2.lt;refine zn (zc (zp (pU (.agg #[sv b1 o1 24 c1]) (xl (ld33 (B0.1))) ?_)));refine pU (.agg #[sv b2 o2 24 c2]) (xl (ld33 (B4.1))) ?_;refine pS (sc 112 #[.agg #[sv b1 o1 24 c1], .agg #[sv b2 o2 24 c2]] ((rLess_v _ _ _ h1 hE h2 hE).mono ?_));rintro e C6 ⟨Bc, Be, rfl, Bh, -, B7, hb⟩;refine mv2 hb hE B2 fun hE B2=>?_;have Ba := hb.size;have Bk := B7.lt;refine ⟨_, rfl, pD (.tuple #[.agg #[sv Bc 0 24 Be], iv 0]) (.agg #[sv Bc 0 24 Be]) ?_⟩;refine pT (iv 0) ?_;refine pS (sw 33 #[.slice none 0 0] ?_);intro Bp Bv B6 Bm hb hbx;have B3 := bq1 hbx;refine mv3 hb hE B2 B7 fun hE B2 B7=>?_;have Bt := hb.size;have C1 := B3.lt;refine pP (zF Bp 0 (sv Bc 0 24 Be) (st33 B3.1 B3.2) B3 ?_);intro Bo ho B3 hk;replace hE := ho.ext hE (by omega);replace B2 := ho.box (by omega) B2;replace B7 := ho.va (by omega) B7;have Bz := Nat.le_of_eq ho.size.symm;clear ho hk;refine pT (iv 0) ?_;refine zn (zc (zc (zp (pD (iv 0) (.bool false) ?_))));refine zn (cK [4,5,14] (fun L => ?_));refine zf ?_;refine cw_skip (zq (zc (zp (pU (.agg #[sv Bc 0 24 Be]) (xl (ld33 (B3.1))) ?_))));refine pP (zF O9 0 (sv Bc 0 24 Be) (st33 B2.1 B2.2) B2 ?_);intro Bw ho B2 hk;replace hE := ho.ext hE (T (T Bl Bj) (Nat.le_of_eq Bg));replace B7 := ho.va (by omega) B7;have C3 := Nat.le_of_eq ho.size.symm;clear ho hk;refine zn (cw_ret (qw_ret [.agg #[sv Bc 0 24 Be]] rfl ⟨⟨_, by kernel_rfl, res_ld (ld33 (B2.1))⟩, trivial⟩ ?_));exact ⟨_, _, rfl, (T (T Bl (T Bj Bb)) Bh), B7, hE⟩
theorem rsorted_c {w0 : World} {a : Option Addr} {n : Nat} {l : List Prod.Pc} (c : Nat) (w : World) (h : PcsAt w0 a n l) (e0 : Ext w0 w) (hn : n ≤ 100) : Calls Tryz.prog 78 #[.slice a n c] w fun e w' => ∃ (a' : Option Addr) (c' : Nat), e = .returned (.slice a' n c') ∧ PcsAt w' a' n (Prod.sortA l) ∧ n ≤ c' ∧ Pl a' ∧ Ext w w' := by
 replace h := h.ext e0;have hnb := h.max;have hln := h.len;clear e0;refine calls_cw 44 [(0, .slice a n c)] Tryz.func78 rfl Tryz.ntmps78 (by kernel_rfl) (by kernel_rfl) (fun L => ?_);have hE := Ext.refl w;refine zc (zp (pT (.slice none 0 0) ?_));refine zn (zc (zp (pT (.slice none 0 0) ?_)));refine zn (zc (zc (zp (pT (iv 0) ?_))));refine zn (cw_block ?_);refine cw_loop [0, 3, 4] (fun ws' wr m => ∃ i : Nat, ∃ ao : Option Addr, ∃ co : Nat, ws' = [(0, .slice a n c), (3, .slice ao i co), (4, iv i)] ∧ m = n - i ∧ w.heap.size ≤ wr.heap.size ∧ Ext w wr ∧ PcsAt wr ao i (Prod.sortA (l.take i)) ∧ i ≤ n ∧ i ≤ co ∧ Pl ao) (ws0 := [(0, .slice a n c), (3, .slice none 0 0), (4, iv 0)]) (by kernel_rfl) _ ⟨0, none, 0, rfl, rfl, Nat.le_refl _, hE, PcsAt.nil _ _, by omega, by omega, .inl rfl⟩ ?_;clear hE;rintro m3 L ws w2 ⟨i, ao, co, rfl, rfl, Dk, hE, hO, hi, hco, hplo⟩;have B0 := Ext.refl w2
 by_cases hlt : i < n
 ·
  obtain ⟨b5, o6, x, Bx, k8, c9, rfl, D4, Bj, Bi, Bl, Bm, Cb⟩ := h.at hlt;have hsa := Prod.sortA_snoc (l.take i) x;have htk : l.take (i + 1) = l.take i ++ [x] := by rw [List.take_add_one, D4];rfl
  refine zc (zc (zp (pD (iv i) (sv b5 o6 n c) ?_)));refine pT (iv n) ?_;refine pU (.bool true) (ed (((i : Nat) : Int) < ((n : Nat) : Int)) (by omega)) ?_;refine zn (zt ?_);refine cw_skip (zq (zc (cw_block ?_)));refine zc (zp (pT (iv 0) ?_));refine zn (zc (cw_block ?_));refine cw_loop [0, 3, 4, 5] (fun ws' wr m => ∃ k : Nat, ws' = [(0, sv b5 o6 n c), (3, .slice ao i co), (4, iv i), (5, iv k)] ∧ m = i - k ∧ w2.heap.size ≤ wr.heap.size ∧ Ext w wr ∧ Ext w2 wr ∧ k ≤ i ∧ ∀ j z, j < k → (Prod.sortA (l.take i))[j]? = some z → Prod.better x z = true) (ws0 := [(0, sv b5 o6 n c), (3, .slice ao i co), (4, iv i), (5, iv 0)]) (by kernel_rfl) _ ⟨0, rfl, rfl, Nat.le_refl _, hE, B0, by omega, fun j z hj _ => absurd hj (Nat.not_lt_zero _)⟩ ?_;clear hE B0;rintro E0 L ws C9 ⟨k, rfl, rfl, C6, hE, B0, hk, hbt⟩
  by_cases Cp : k < i
  ·
   obtain ⟨Bf, Bb, y, Bu, C8, C7, rfl, Cc, Br, Bt, Bv, Bs, Dm⟩ := hO.at Cp;refine zc (cw_seq ?_);rcases Bool.eq_false_or_eq_true (Prod.better x y) with hbb | hbb
   ·
    have Bz := Ext.refl C9;refine dE Tz51_0 (fun w' => w'.cell? ⟨b5, o6 + i * 4, none⟩ = some (iv x.im) ∧ w'.cell? ⟨b5, o6 + i * 4 + 1, none⟩ = some (iv x.t) ∧ w'.cell? ⟨b5, o6 + i * 4 + 2, none⟩ = some (.bool x.cl) ∧ w'.cell? ⟨b5, o6 + i * 4 + 3, none⟩ = some (.slice Bx k8 c9) ∧ w'.cell? ⟨Bf, Bb + k * 4, none⟩ = some (iv y.im) ∧ w'.cell? ⟨Bf, Bb + k * 4 + 1, none⟩ = some (iv y.t) ∧ w'.cell? ⟨Bf, Bb + k * 4 + 2, none⟩ = some (.bool y.cl) ∧ w'.cell? ⟨Bf, Bb + k * 4 + 3, none⟩ = some (.slice Bu C8 C7)) (⟨(hE.cell Bj), (hE.cell Bi), (hE.cell Bl), (hE.cell Bm), (B0.cell Br), (B0.cell Bt), (B0.cell Bv), (B0.cell Bs)⟩) (fun ops Q E2 hb hL hR hK => ?_);refine mv2 hb hE B0 fun hE B0=>?_;have Cw := hb.size;have hS := A8 (hE.cell Bj) (hE.cell Bi) (hE.cell Bl) (hE.cell Bm) (B0.cell Br) (B0.cell Bt) (B0.cell Bv) (B0.cell Bs);refine wW 0 (iv k) 1 (sv Bf Bb i co) hR hS ?_;refine wV 2 (iv i) hR hS ?_;refine wL 3 (.bool true) hR (fun w _ => ev_dec (show _ = Result.ok (Next.value (Value.bool (decide (((k : Nat) : Int) < ((i : Nat) : Int))))) _ from by kernel_rfl) (by omega)) hS ?_;refine wW 4 (.bool true) 5 (sv b5 o6 n c) hR hS ?_;refine wV 6 (iv i) hR hS ?_;refine wL 7 (pw b5 (o6 + i * 4)) hR (fun w _ => ex_index (p := sv b5 o6 n c) (i := iv i) rfl (by kernel_rfl) (by kernel_rfl) (ix30 (k := i) (by omega))) hS ?_;refine wM 8 (.agg #[iv x.im, iv x.t, .bool x.cl, .slice Bx k8 c9]) hR (fun w hS => ld49 (hS.1) (hS.2.1) (hS.2.2.1) (hS.2.2.2.1)) hS ?_;refine wW 9 (sv Bf Bb i co) 10 (iv k) hR hS ?_;refine wL 11 (pw Bf (Bb + k * 4)) hR (fun w _ => ex_index (p := sv Bf Bb i co) (i := iv k) rfl (by kernel_rfl) (by kernel_rfl) (ix30 (k := k) (by omega))) hS ?_;refine wM 12 (.agg #[iv y.im, iv y.t, .bool y.cl, .slice Bu C8 C7]) hR (fun w hS => ld49 (hS.2.2.2.2.1) (hS.2.2.2.2.2.1) (hS.2.2.2.2.2.2.1) (hS.2.2.2.2.2.2.2)) hS ?_;refine wC 13 84 #[.agg #[iv x.im, iv x.t, .bool x.cl, .slice Bx k8 c9], .agg #[iv y.im, iv y.t, .bool y.cl, .slice Bu C8 C7]] hR ((rBetter_r (x := x) (y := y) (r := true) _ hbb).mono ?_);rintro e Du ⟨rfl, hb⟩;refine mv2 hb hE B0 fun hE B0=>?_;have Cv := hb.size;have hS := A8 (hE.cell Bj) (hE.cell Bi) (hE.cell Bl) (hE.cell Bm) (B0.cell Br) (B0.cell Bt) (B0.cell Bv) (B0.cell Bs);refine ⟨_, rfl, hS, ?_⟩;refine wV 14 (.bool true) hR hS ?_;refine we hL hR hK ?_;refine zq (cK [0,3,4,5,26] (fun L => ?_));refine zt ?_;refine cw_skip (zq (cw_block ?_));refine zp (pT (iv k) ?_);refine pU (iv ((k + 1 : Nat) : Int)) (ew (by omega) (by omega)) ?_;refine pT (iv ((k + 1 : Nat) : Int)) ?_;refine pl_nil (qw_block (zr [0, 3, 4, 5] _ ?_ ⟨(k + 1), rfl, rfl, (T C6 (T Cw Cv)), hE, B0, by omega, (fun j z hj hz => (Nat.lt_or_ge j k).elim (fun q => hbt j z q hz) (fun q => by obtain rfl : j = k := (by omega); rw [Cc] at hz; cases hz; exact hbb))⟩));omega
   ·
    have hend : ∀ z, (Prod.sortA (l.take i))[k]? = some z → Prod.better x z = false := fun z hz => by rw [Cc] at hz;cases hz;exact hbb
    have B4 := Ext.refl C9;refine dE Tz51_0 (fun w' => w'.cell? ⟨b5, o6 + i * 4, none⟩ = some (iv x.im) ∧ w'.cell? ⟨b5, o6 + i * 4 + 1, none⟩ = some (iv x.t) ∧ w'.cell? ⟨b5, o6 + i * 4 + 2, none⟩ = some (.bool x.cl) ∧ w'.cell? ⟨b5, o6 + i * 4 + 3, none⟩ = some (.slice Bx k8 c9) ∧ w'.cell? ⟨Bf, Bb + k * 4, none⟩ = some (iv y.im) ∧ w'.cell? ⟨Bf, Bb + k * 4 + 1, none⟩ = some (iv y.t) ∧ w'.cell? ⟨Bf, Bb + k * 4 + 2, none⟩ = some (.bool y.cl) ∧ w'.cell? ⟨Bf, Bb + k * 4 + 3, none⟩ = some (.slice Bu C8 C7)) (⟨(hE.cell Bj), (hE.cell Bi), (hE.cell Bl), (hE.cell Bm), (B0.cell Br), (B0.cell Bt), (B0.cell Bv), (B0.cell Bs)⟩) (fun ops Q E3 hb hL hR hK => ?_);refine mv2 hb hE B0 fun hE B0=>?_;have D1 := hb.size;have hS := A8 (hE.cell Bj) (hE.cell Bi) (hE.cell Bl) (hE.cell Bm) (B0.cell Br) (B0.cell Bt) (B0.cell Bv) (B0.cell Bs);refine wW 0 (iv k) 1 (sv Bf Bb i co) hR hS ?_;refine wV 2 (iv i) hR hS ?_;refine wL 3 (.bool true) hR (fun w _ => ev_dec (show _ = Result.ok (Next.value (Value.bool (decide (((k : Nat) : Int) < ((i : Nat) : Int))))) _ from by kernel_rfl) (by omega)) hS ?_;refine wW 4 (.bool true) 5 (sv b5 o6 n c) hR hS ?_;refine wV 6 (iv i) hR hS ?_;refine wL 7 (pw b5 (o6 + i * 4)) hR (fun w _ => ex_index (p := sv b5 o6 n c) (i := iv i) rfl (by kernel_rfl) (by kernel_rfl) (ix30 (k := i) (by omega))) hS ?_;refine wM 8 (.agg #[iv x.im, iv x.t, .bool x.cl, .slice Bx k8 c9]) hR (fun w hS => ld49 (hS.1) (hS.2.1) (hS.2.2.1) (hS.2.2.2.1)) hS ?_;refine wW 9 (sv Bf Bb i co) 10 (iv k) hR hS ?_;refine wL 11 (pw Bf (Bb + k * 4)) hR (fun w _ => ex_index (p := sv Bf Bb i co) (i := iv k) rfl (by kernel_rfl) (by kernel_rfl) (ix30 (k := k) (by omega))) hS ?_;refine wM 12 (.agg #[iv y.im, iv y.t, .bool y.cl, .slice Bu C8 C7]) hR (fun w hS => ld49 (hS.2.2.2.2.1) (hS.2.2.2.2.2.1) (hS.2.2.2.2.2.2.1) (hS.2.2.2.2.2.2.2)) hS ?_;refine wC 13 84 #[.agg #[iv x.im, iv x.t, .bool x.cl, .slice Bx k8 c9], .agg #[iv y.im, iv y.t, .bool y.cl, .slice Bu C8 C7]] hR ((rBetter_r (x := x) (y := y) (r := false) _ hbb).mono ?_);rintro e Dl ⟨rfl, hb⟩;refine mv2 hb hE B0 fun hE B0=>?_;have Cx := hb.size;have hS := A8 (hE.cell Bj) (hE.cell Bi) (hE.cell Bl) (hE.cell Bm) (B0.cell Br) (B0.cell Bt) (B0.cell Bv) (B0.cell Bs);refine ⟨_, rfl, hS, ?_⟩;refine wV 14 (.bool false) hR hS ?_;refine we hL hR hK ?_;refine zq (cK [0,3,4,5,26] (fun L => ?_));refine zf ?_;refine cw_exit (qw_then_exit (qw_then_exit (qw_block_out (qw_then ?_))));have hat := Prod.insA_at (x := x) (l := Prod.sortA (l.take i)) (k := k) (fun j z hj hz => hbt j z hj hz) (by rw [hO.len]; omega) hend;have hOt := PcsAt.take hO (k := k) (by omega);have hOd := PcsAt.dropS hO (k := k) (by omega);have Bo := Ext.refl Dl;refine dE Tz51_1 (fun w' => Ext w w') (Ext.drew hE) (fun ops Q Dy hb hL hR hK => ?_);refine mv2 hb hE B0 fun hE B0=>?_;have Cu := hb.size;refine wW 0 (sv Bf Bb i co) 1 (iv k) hR hE ?_;refine wV 2 (iv k) hR hE ?_;refine wL 3 (sv Bf Bb k k) hR (fun w _ => ex_slice (p := sv Bf Bb i co) rfl (by kernel_rfl) (by kernel_rfl) (by kernel_rfl) (by kernel_rfl) (sl30_011 (m := k) (r := k) (by omega) (by omega) (by omega))) hE ?_;refine wW 4 (sv b5 o6 n c) 5 (iv i) hR hE ?_;refine wL 6 (pw b5 (o6 + i * 4)) hR (fun w _ => ex_index (p := sv b5 o6 n c) (i := iv i) rfl (by kernel_rfl) (by kernel_rfl) (ix30 (k := i) (by omega))) hE ?_;refine wM 7 (.agg #[iv x.im, iv x.t, .bool x.cl, .slice Bx k8 c9]) hR (fun w hS => ld49 (hS.cell Bj) (hS.cell Bi) (hS.cell Bl) (hS.cell Bm)) hE ?_;refine wW 9 (sv Bf Bb i co) 10 (iv k) hR hE ?_;refine wL 11 (sv Bf (Bb + k * 4) (i - k) (co - k)) hR (fun w _ => ex_slice (p := sv Bf Bb i co) rfl (by kernel_rfl) (by kernel_rfl) (by kernel_rfl) (by kernel_rfl) (sl30_100 (k := k) (by omega) (by omega) (by omega))) hE ?_;refine wS 8 hR (sn_newS (us := #[iv x.im, iv x.t, .bool x.cl, .slice Bx k8 c9]) (t := 49) (k := 1) (c := 1) (by kernel_rfl) ?_);intro E1 Dw Dh Dg hb hbx;have ⟨B3, B7, B6, Bg⟩ := bq4 hbx;refine mv2 hb hE B0 fun hE B0=>?_;have D6 := hb.size;have Dn := B3.lt;refine ⟨hE, ?_⟩;obtain ⟨Do, C1, D2, C3, Cz, Da, Df, hb⟩ := app_list (S := (fun _ => True)) (c := co - k) (one_pcs (x := x) (B3.1) (B7.1) (B6.1) (Bg.1) (AA.ext (aa_q (Cb)) hE) trivial (fun _ _ => trivial)) (.inr ⟨_, _, rfl⟩) ((hOd.ext B0).S) (fun _ _ => trivial) (by omega);refine wS 12 hR (sn_eff (v := .slice Do (1 + (i - k)) C1) (w' := D2) (ex_append rfl (by kernel_rfl) (by kernel_rfl) C3) ?_);refine mv2 hb hE B0 fun hE B0=>?_;have Cs := hb.size;refine ⟨hE, ?_⟩;have Ca := Ext.refl D2;have Cd := Cz.pcs;obtain ⟨Ch, Bp, Cn, C5, D7, Dc, Cg, hb⟩ := app_list (S := (fun _ => True)) (c := C1) ((hOt.ext B0).S) hplo ((Cd.ext (Ext.refl _)).S) (fun _ _ => trivial) (by omega);refine wS 13 hR (sn_eff (v := .slice Ch (k + (1 + (i - k))) Bp) (w' := Cn) (ex_append rfl (by kernel_rfl) (by kernel_rfl) C5) ?_);refine mv2 hb hE B0 fun hE B0=>?_;have D8 := hb.size;refine ⟨hE, ?_⟩;have Bw : k + (1 + (i - k)) = i + 1 := by omega
    have Cj : PcsAt Cn Ch (i + 1) (Prod.sortA (l.take (i + 1))) := by rw [htk, hsa, hat, ← Bw];exact D7.pcs
    have Dq := Ext.refl Cn;refine wV 14 (.slice Ch (k + (1 + (i - k))) Bp) hR hE ?_;refine we hL hR hK ?_;refine qw_block (zq (cK [0,3,4] (fun L => ?_)));refine zp (pT (iv i) ?_);refine pU (iv ((i + 1 : Nat) : Int)) (ew (by omega) (by omega)) ?_;refine pT (iv ((i + 1 : Nat) : Int)) ?_;refine pl_nil (qw_round [0, 3, 4] (ws' := [(0, sv b5 o6 n c), (3, .slice Ch (k + (1 + (i - k))) Bp), (4, iv ((i + 1 : Nat) : Int))]) (by kernel_rfl) _ ?_ ⟨(i + 1), Ch, Bp, (by rw [Bw]), rfl, (by omega), hE, Cj, by omega, (by omega), Cg⟩);omega
  ·
   have hki : k = i := by omega
   have hend : ∀ y, (Prod.sortA (l.take i))[k]? = some y → Prod.better x y = false := fun y hy => by rw [List.getElem?_eq_none (by rw [hO.len]; omega)] at hy;cases hy
   refine cw_seq ?_;refine cw_seq ?_;have Bh := Ext.refl C9;refine dE Tz51_0 (fun w' => True) (trivial) (fun ops Q Db hb hL hR hK => ?_);refine mv2 hb hE B0 fun hE B0=>?_;have D3 := hb.size;have hS := trivial;refine wW 0 (iv k) 1 (.slice ao i co) hR hS ?_;refine wV 2 (iv i) hR hS ?_;refine wL 3 (.bool false) hR (fun w _ => ev_ndec (show _ = Result.ok (Next.value (Value.bool (decide (((k : Nat) : Int) < ((i : Nat) : Int))))) _ from by kernel_rfl) (by omega)) hS ?_;refine wV 4 (.bool false) hR hS ?_;refine wK 5 hR hS ?_;refine wK 6 hR hS ?_;refine wK 7 hR hS ?_;refine wK 8 hR hS ?_;refine wK 9 hR hS ?_;refine wK 10 hR hS ?_;refine wK 11 hR hS ?_;refine wK 12 hR hS ?_;refine wK 13 hR hS ?_;refine wV 14 (.bool false) hR hS ?_;refine we hL hR hK ?_;refine zq (cK [0,3,4,5,26] (fun L => ?_));refine zf ?_;refine cw_exit (qw_then_exit (qw_then_exit (qw_block_out (qw_then ?_))));have hat := Prod.insA_at (x := x) (l := Prod.sortA (l.take i)) (k := k) (fun j z hj hz => hbt j z hj hz) (by rw [hO.len]; omega) hend;have hOt := PcsAt.take hO (k := k) (by omega);have hOd := PcsAt.drop hO (k := k) (c := co) (by omega) (by omega);have Bk := Ext.refl Db;refine dE Tz51_1 (fun w' => Ext w w') (Ext.drew hE) (fun ops Q Dx hb hL hR hK => ?_);refine mv2 hb hE B0 fun hE B0=>?_;have D5 := hb.size;refine wW 0 (.slice ao i co) 1 (iv k) hR hE ?_;refine wV 2 (iv k) hR hE ?_;refine wL 3 (.slice ao k k) hR (fun w _ => ex_slice (p := .slice ao i co) rfl (by kernel_rfl) (by kernel_rfl) (by kernel_rfl) (by kernel_rfl) (sl30_011a (m := k) (r := k) (by omega) (by omega) (by omega))) hE ?_;refine wW 4 (sv b5 o6 n c) 5 (iv i) hR hE ?_;refine wL 6 (pw b5 (o6 + i * 4)) hR (fun w _ => ex_index (p := sv b5 o6 n c) (i := iv i) rfl (by kernel_rfl) (by kernel_rfl) (ix30 (k := i) (by omega))) hE ?_;refine wM 7 (.agg #[iv x.im, iv x.t, .bool x.cl, .slice Bx k8 c9]) hR (fun w hS => ld49 (hS.cell Bj) (hS.cell Bi) (hS.cell Bl) (hS.cell Bm)) hE ?_;refine wW 9 (.slice ao i co) 10 (iv k) hR hE ?_;refine wL 11 (.slice (if co = k then ao else ao.map (fun x => x.add (k * 4))) (i - k) (co - k)) hR (fun w _ => ex_slice (p := .slice ao i co) rfl (by kernel_rfl) (by kernel_rfl) (by kernel_rfl) (by kernel_rfl) (sl30_100b (k := k) (by omega) (by omega))) hE ?_;refine wS 8 hR (sn_newS (us := #[iv x.im, iv x.t, .bool x.cl, .slice Bx k8 c9]) (t := 49) (k := 1) (c := 1) (by kernel_rfl) ?_);intro Dz Dv Dj Dd hb hbx;have ⟨B2, Bc, Be, Ba⟩ := bq4 hbx;refine mv2 hb hE B0 fun hE B0=>?_;have Cq := hb.size;have Dt := B2.lt;refine ⟨hE, ?_⟩;obtain ⟨Dr, C0, Ct, C4, Cy, Di, De, hb⟩ := app_list (S := (fun _ => True)) (c := co - k) (one_pcs (x := x) (B2.1) (Bc.1) (Be.1) (Ba.1) (AA.ext (aa_q (Cb)) hE) trivial (fun _ _ => trivial)) (.inr ⟨_, _, rfl⟩) ((hOd.ext B0).S) (fun _ _ => trivial) (by omega);refine wS 12 hR (sn_eff (v := .slice Dr (1 + (i - k)) C0) (w' := Ct) (ex_append rfl (by kernel_rfl) (by kernel_rfl) C4) ?_);refine mv2 hb hE B0 fun hE B0=>?_;have Cr := hb.size;refine ⟨hE, ?_⟩;have Ce := Ext.refl Ct;have Cl := Cy.pcs;obtain ⟨Ck, Bq, Cm, C2, D0, D9, Cf, hb⟩ := app_list (S := (fun _ => True)) (c := C0) ((hOt.ext B0).S) hplo ((Cl.ext (Ext.refl _)).S) (fun _ _ => trivial) (by omega);refine wS 13 hR (sn_eff (v := .slice Ck (k + (1 + (i - k))) Bq) (w' := Cm) (ex_append rfl (by kernel_rfl) (by kernel_rfl) C2) ?_);replace hE := hE.trans hb;have Co := hb.size;refine ⟨hE, ?_⟩;have Bw : k + (1 + (i - k)) = i + 1 := by omega
   have Ci : PcsAt Cm Ck (i + 1) (Prod.sortA (l.take (i + 1))) := by rw [htk, hsa, hat, ← Bw];exact D0.pcs
   have Dp := Ext.refl Cm;refine wV 14 (.slice Ck (k + (1 + (i - k))) Bq) hR hE ?_;refine we hL hR hK ?_;refine qw_block (zq (cK [0,3,4] (fun L => ?_)));refine zp (pT (iv i) ?_);refine pU (iv ((i + 1 : Nat) : Int)) (ew (by omega) (by omega)) ?_;refine pT (iv ((i + 1 : Nat) : Int)) ?_;refine pl_nil (qw_round [0, 3, 4] (ws' := [(0, sv b5 o6 n c), (3, .slice Ck (k + (1 + (i - k))) Bq), (4, iv ((i + 1 : Nat) : Int))]) (by kernel_rfl) _ ?_ ⟨(i + 1), Ck, Bq, (by rw [Bw]), rfl, (by omega), hE, Ci, by omega, (by omega), Cf⟩);omega
 ·
  have hin : i = n := by omega
  refine zc (zc (zp (pD (iv i) (.slice a n c) ?_)));refine pT (iv n) ?_;refine pU (.bool false) (en (((i : Nat) : Int) < ((n : Nat) : Int)) (by omega)) ?_;refine zn (zf ?_);refine cw_exit (qw_then_exit (qw_then_exit (qw_block_out (zq (zc (zp (pD (.slice ao i co) (.slice ao i co) ?_)))))));refine zn (cw_ret (qw_ret [.slice ao i co] rfl ⟨(by kernel_rfl), trivial⟩ ?_));exact ⟨ao, co, (by rw [hin]; rfl), by rw [hin, List.take_of_length_le (Nat.le_of_eq hln)] at hO; exact hO.ext (Ext.refl _), by omega, hplo, hE⟩
end Go.Proofs.YtajdohcgjgknmaaGreatDoor
