/- Part 6 of what the proof of TopProduct stands on. -/
import Derived.Test.YtajdohcgjgknmaaGreatDoorV5TopProduct
/- The walk of TopProduct. -/
namespace Go.Proofs.YtajdohcgjgknmaaGreatDoor
open Go.RowKit Go.Shelf

theorem ix28 {w : World} {b o n c k : Nat} (hk : k < n) : (Instr.indexAt 28 (.slice (some ⟨b, o, none⟩) n c) (.int .i64 (k : Int))).run Tryz.prog w = .ok (.pointer (some ⟨b, o + k * 7, none⟩)) w := by
  have : (0 : Int) ≤ (k : Int) := by omega
  have : (k : Int) < (n : Int) := by omega
  go_simp
theorem ix28z {w : World} {b n c k : Nat} (hk : k < n) : (Instr.indexAt 28 (.slice (some ⟨b, 0, none⟩) n c) (.int .i64 (k : Int))).run Tryz.prog w = .ok (.pointer (some ⟨b, k * 7, none⟩)) w := by
  have h := ix28 (w := w) (b := b) (o := 0) (c := c) hk
  rwa [Nat.zero_add] at h
theorem ld22 {w : World} {b o : Nat} {x0 x1 x2 x3 x4 x5 x6 : Value} (h0 : w.cell? ⟨b, o, none⟩ = some x0) (h1 : w.cell? ⟨b, o + 1, none⟩ = some x1) (h2 : w.cell? ⟨b, o + 2, none⟩ = some x2) (h3 : w.cell? ⟨b, o + 3, none⟩ = some x3) (h4 : w.cell? ⟨b, o + 4, none⟩ = some x4) (h5 : w.cell? ⟨b, o + 5, none⟩ = some x5) (h6 : w.cell? ⟨b, o + 6, none⟩ = some x6) : (Instr.loadAt 22 (.pointer (some ⟨b, o, none⟩))).run Tryz.prog w = .ok (.agg #[x0, x1, x2, x3, x4, x5, x6]) w := by go_simp
theorem st38 {w : World} {b o : Nat} {u0 u1 : Value} {x0 : Int} {x1 : Int} (h0 : w.cell? ⟨b, o, none⟩ = some u0) (f0 : w.frozen? ⟨b, o, none⟩ = false) (h1 : w.cell? ⟨b, o + 1, none⟩ = some u1) (f1 : w.frozen? ⟨b, o + 1, none⟩ = false) : (Instr.storeAt 38 (.pointer (some ⟨b, o, none⟩)) (.agg #[(.int .i64 x0), (.int .i64 x1)])).run Tryz.prog w = .ok () ((w.setCell ⟨b, o, none⟩ (.int .i64 x0)).setCell ⟨b, o + 1, none⟩ (.int .i64 x1)) := by go_simp
namespace Top
open Globe
theorem real_eq {o : Orb} {s : Int × Int} {lk d : Int} (h0 : -o.sl ≤ d) : Swath.showL o lk (s.1 - d) (s.2 - s.1).toNat = Swath.areaJ o s lk (d + o.sl).toNat := by
  unfold Swath.areaJ
  rw [show -o.sl + (((d + o.sl).toNat : Nat) : Int) = d by omega]
theorem real_sure {o : Orb} (hok : Orb.ok o = true) {s : Int × Int} {lk d : Int} (h0 : -o.sl ≤ d) (h1 : d ≤ o.sl) : containsB (Swath.showL o lk (s.1 - d) (s.2 - s.1).toNat) (Swath.sureL o s lk) = true := by
  rw [real_eq h0]; exact Swath.sure_in hok s lk (by unfold Swath.lates; omega)
theorem real_can {o : Orb} (hok : Orb.ok o = true) {s : Int × Int} {lk d : Int} (h0 : -o.sl ≤ d) (h1 : d ≤ o.sl) : containsB (Swath.canL o s lk) (Swath.showL o lk (s.1 - d) (s.2 - s.1).toNat) = true := by
  rw [real_eq h0]; exact Swath.can_has hok s lk (by unfold Swath.lates; omega)
end Top
theorem ints_get {w : World} {a : Option Addr} {l : List Nat} (h : IntsAt w a (intsN l)) (h0 : 0 < l.length) : ∃ b o, a = some ⟨b, o, none⟩ ∧ ∀ (i : Nat) D, l[i]? = some D → w.cell? ⟨b, o + i, none⟩ = some (.int .i64 ((D : Nat) : Int)) := by
  rcases h with q | ⟨b, o, rfl, q⟩
  · have := congrArg List.length q; rw [intsN_len, List.length_nil] at this; omega
  · refine ⟨b, o, rfl, fun i D hD => ?_⟩
    have hi := (List.getElem?_eq_some_iff.1 hD).1
    rw [q i (by rw [intsN_len]; exact hi)]
    unfold intsN Globe.nth
    simp [hD]
theorem Contains_t {b1 o1 b2 o2 : Nat} (c1 c2 : Nat) {l1 l2 : List Int} (w : World) (h1 : VA w b1 o1 l1) (h2 : VA w b2 o2 l2) (hr : Globe.containsB l1 l2 = true) :
    Calls Tryz.prog 10 #[.agg #[.slice (some ⟨b1, o1, none⟩) 24 c1], .agg #[.slice (some ⟨b2, o2, none⟩) 24 c2]] w fun e w' => e = .returned (.bool true) ∧ Ext w w' := hr ▸ Contains_v c1 c2 w h1 (Ext.refl _) h2 (Ext.refl _)
theorem rSame_y {w1 w2 : World} {b1 o1 b2 o2 : Nat} (c1 c2 : Nat) {l1 l2 : List Int} (w : World) (h1 : VA w1 b1 o1 l1) (e1 : Ext w1 w) (h2 : VA w2 b2 o2 l2) (e2 : Ext w2 w) (hr : l1 = l2) :
    Calls Tryz.prog 16 #[.agg #[.slice (some ⟨b1, o1, none⟩) 24 c1], .agg #[.slice (some ⟨b2, o2, none⟩) 24 c2]] w fun e w' => e = .returned (.bool true) ∧ Ext w w' := by
  have := rSame_c c1 c2 w h1.aa e1 h2.aa e2
  rw [decide_eq_true hr] at this; exact this
theorem From_k {zs : Array Value} {w : World} {p : Prod.Pc} {k : Int} (h : Calls Tryz.prog 19 zs w fun e w' => e = .returned (.tuple #[.int .i64 p.im, .bool true]) ∧ Ext w w') (him : p.im = k) : Calls Tryz.prog 19 zs w fun e w' => e = .returned (.tuple #[.int .i64 k, .bool true]) ∧ Ext w w' := him ▸ h
theorem own_raws9 {n₀ e n cap : Nat} {a : Option Addr} {w : World} {rs : List RawPc} (h : OwnL rawR n₀ e 4 (.slice a n cap) w rs) (hl : rs.length = n) (hn : n ≤ 140737488355328) : RawsAt w a n rs := by
  obtain ⟨cs, h1, h2, h3, h4⟩ := id h
  rcases h3.2 with ⟨q1, q2⟩ | ⟨g, cap', cur, q1, _⟩
  · injection q1 with r1 r2 r3; exact ⟨hl, hn, .inl r2⟩
  · injection q1 with r1 r2 r3; subst r1; have := holds_raws (own_holds h hl) (by omega); rwa [hl] at this
theorem own_cap9 {α : Type} {R : Rep α} {k n₀ e n cap : Nat} {a : Option Addr} {w : World} {l : List α} (h : OwnL R n₀ e k (.slice a n cap) w l) (hl : l.length = n) : n ≤ cap := by
  obtain ⟨cs, h1, h2, h3, h4⟩ := h
  rcases h3.2 with ⟨q, q2⟩ | ⟨g, cap', cur, q, _, _, hc, _⟩
  · injection q with r1 r2 r3; omega
  · injection q with r1 r2 r3; omega
set_option maxRecDepth 1000000 in
set_option maxHeartbeats 4000000 in
theorem TopProduct_walk (w : World) (v0 : Value) (op0 : Seven v0) (v1 : Value) (op1 : Seven v1) (v2 : Value) (op2 : Quads w v2) (v3 : Value) (op3 : Quads w v3) (v4 : Value) (op4 : Ints1 w v4) (hT : Tab w) :
    Calls Tryz.prog 3 #[v0, v1, v2, v3, v4] w fun e w' => e = .returned (.bool true) ∧ Ext w w' := by
  obtain ⟨x0, x1, x2, x3, x4, x5, x6, rfl, ix0, ix1, ix2, ix3, ix4, ix5, ix6⟩ := op0
  obtain ⟨y0, y1, y2, y3, y4, y5, y6, rfl, iy0, iy1, iy2, iy3, iy4, iy5, iy6⟩ := op1
  obtain ⟨a2, n2, c2, q2, rfl, hnc2, hcm2, hz2, Q2⟩ := op2
  obtain ⟨a3, n3, c3, q3, rfl, hnc3, hcm3, hz3, Q3⟩ := op3
  obtain ⟨a4, n4, c4, q4, rfl, hnc4, hcm4, I4⟩ := op4
  refine calls_cw 342 [(4, .slice a4 n4 c4), (3, .slice a3 n3 c3), (2, .slice a2 n2 c2), (1, .agg #[.int .i64 (y0 : Int), .int .i64 (y1 : Int), .int .i64 (y2 : Int), .int .i64 (y3 : Int), .int .i64 (y4 : Int), .int .i64 (y5 : Int), .int .i64 (y6 : Int)]), (0, .agg #[.int .i64 (x0 : Int), .int .i64 (x1 : Int), .int .i64 (x2 : Int), .int .i64 (x3 : Int), .int .i64 (x4 : Int), .int .i64 (x5 : Int), .int .i64 (x6 : Int)])] Tryz.func3 rfl Tryz.ntmps3 (by kernel_rfl) (by kernel_rfl) (fun L => ?_)
  have hE : Ext w w := Ext.refl w
  refine cw_seq ?_
  refine cw_plain ?_
  refine pl_step rfl (by kernel_rfl) (by kernel_rfl) (by kernel_rfl) (sn_new (us := #[.int .i64 (x0 : Int), .int .i64 (x1 : Int), .int .i64 (x2 : Int), .int .i64 (x3 : Int), .int .i64 (x4 : Int), .int .i64 (x5 : Int), .int .i64 (x6 : Int)]) (t := 22) (by kernel_rfl) ?_)
  intro O1 X2 hO hOs hb hbx
  have hzO1 := hO; have hyO1 := hOs; clear hO hOs
  have bO1_0 : BoxAt X2 O1 0 (.int .i64 (x0 : Int)) := hbx 0 _ rfl
  have bO1_1 : BoxAt X2 O1 1 (.int .i64 (x1 : Int)) := hbx 1 _ rfl
  have bO1_2 : BoxAt X2 O1 2 (.int .i64 (x2 : Int)) := hbx 2 _ rfl
  have bO1_3 : BoxAt X2 O1 3 (.int .i64 (x3 : Int)) := hbx 3 _ rfl
  have bO1_4 : BoxAt X2 O1 4 (.int .i64 (x4 : Int)) := hbx 4 _ rfl
  have bO1_5 : BoxAt X2 O1 5 (.int .i64 (x5 : Int)) := hbx 5 _ rfl
  have bO1_6 : BoxAt X2 O1 6 (.int .i64 (x6 : Int)) := hbx 6 _ rfl
  clear hbx
  replace hE := hE.trans hb
  have hs3 := hb.size
  clear hb
  have lt4 := bO1_0.lt
  refine pl_step rfl (by kernel_rfl) (by kernel_rfl) (by kernel_rfl) (sn_new (us := #[.int .i64 (y0 : Int), .int .i64 (y1 : Int), .int .i64 (y2 : Int), .int .i64 (y3 : Int), .int .i64 (y4 : Int), .int .i64 (y5 : Int), .int .i64 (y6 : Int)]) (t := 22) (by kernel_rfl) ?_)
  intro O5 X6 hO hOs hb hbx
  have hzO5 := hO; have hyO5 := hOs; clear hO hOs
  have bO5_0 : BoxAt X6 O5 0 (.int .i64 (y0 : Int)) := hbx 0 _ rfl
  have bO5_1 : BoxAt X6 O5 1 (.int .i64 (y1 : Int)) := hbx 1 _ rfl
  have bO5_2 : BoxAt X6 O5 2 (.int .i64 (y2 : Int)) := hbx 2 _ rfl
  have bO5_3 : BoxAt X6 O5 3 (.int .i64 (y3 : Int)) := hbx 3 _ rfl
  have bO5_4 : BoxAt X6 O5 4 (.int .i64 (y4 : Int)) := hbx 4 _ rfl
  have bO5_5 : BoxAt X6 O5 5 (.int .i64 (y5 : Int)) := hbx 5 _ rfl
  have bO5_6 : BoxAt X6 O5 6 (.int .i64 (y6 : Int)) := hbx 6 _ rfl
  clear hbx
  replace hE := hE.trans hb
  replace bO1_0 := BoxAt.ext hb bO1_0
  replace bO1_1 := BoxAt.ext hb bO1_1
  replace bO1_2 := BoxAt.ext hb bO1_2
  replace bO1_3 := BoxAt.ext hb bO1_3
  replace bO1_4 := BoxAt.ext hb bO1_4
  replace bO1_5 := BoxAt.ext hb bO1_5
  replace bO1_6 := BoxAt.ext hb bO1_6
  have hs7 := hb.size
  clear hb
  have lt8 := bO5_0.lt
  refine pl_take (.bool false) rfl (by kernel_rfl) (by kernel_rfl) (by kernel_rfl) (by kernel_rfl) ?_
  refine pl_nil ?_
  refine qw_then ?_
  refine cw_seq ?_
  refine cw_draw [(some 45, [5], []), (some 46, [45], [0]), (some 47, [6], []), (some 48, [47], [2, 1]), (some 49, [46, 48], [1, 3]), (some 11, [49], [4, 3, 0, 1, 2, 3, 4])] (fun w' => w'.cell? ⟨O1, 0, none⟩ = some (.int .i64 (x0 : Int)) ∧ w'.cell? ⟨O1, 1, none⟩ = some (.int .i64 (x1 : Int)) ∧ w'.cell? ⟨O1, 2, none⟩ = some (.int .i64 (x2 : Int)) ∧ w'.cell? ⟨O1, 3, none⟩ = some (.int .i64 (x3 : Int)) ∧ w'.cell? ⟨O1, 4, none⟩ = some (.int .i64 (x4 : Int)) ∧ w'.cell? ⟨O1, 5, none⟩ = some (.int .i64 (x5 : Int)) ∧ w'.cell? ⟨O1, 6, none⟩ = some (.int .i64 (x6 : Int)) ∧ w'.cell? ⟨O5, 0, none⟩ = some (.int .i64 (y0 : Int)) ∧ w'.cell? ⟨O5, 1, none⟩ = some (.int .i64 (y1 : Int)) ∧ w'.cell? ⟨O5, 2, none⟩ = some (.int .i64 (y2 : Int)) ∧ w'.cell? ⟨O5, 3, none⟩ = some (.int .i64 (y3 : Int)) ∧ w'.cell? ⟨O5, 4, none⟩ = some (.int .i64 (y4 : Int)) ∧ w'.cell? ⟨O5, 5, none⟩ = some (.int .i64 (y5 : Int)) ∧ w'.cell? ⟨O5, 6, none⟩ = some (.int .i64 (y6 : Int))) (by kernel_rfl) (by kernel_rfl) (by kernel_rfl) (by kernel_rfl) ((calm_then calm_body)) (⟨bO1_0.1, bO1_1.1, bO1_2.1, bO1_3.1, bO1_4.1, bO1_5.1, bO1_6.1, bO5_0.1, bO5_1.1, bO5_2.1, bO5_3.1, bO5_4.1, bO5_5.1, bO5_6.1⟩) (fun ops Q X9 hb hL hR hK => ?_)
  replace hE := hE.trans hb
  replace bO1_0 := BoxAt.ext hb bO1_0
  replace bO1_1 := BoxAt.ext hb bO1_1
  replace bO1_2 := BoxAt.ext hb bO1_2
  replace bO1_3 := BoxAt.ext hb bO1_3
  replace bO1_4 := BoxAt.ext hb bO1_4
  replace bO1_5 := BoxAt.ext hb bO1_5
  replace bO1_6 := BoxAt.ext hb bO1_6
  replace bO5_0 := BoxAt.ext hb bO5_0
  replace bO5_1 := BoxAt.ext hb bO5_1
  replace bO5_2 := BoxAt.ext hb bO5_2
  replace bO5_3 := BoxAt.ext hb bO5_3
  replace bO5_4 := BoxAt.ext hb bO5_4
  replace bO5_5 := BoxAt.ext hb bO5_5
  replace bO5_6 := BoxAt.ext hb bO5_6
  have hs10 := hb.size
  clear hb
  refine wd_take 0 (.agg #[.int .i64 (x0 : Int), .int .i64 (x1 : Int), .int .i64 (x2 : Int), .int .i64 (x3 : Int), .int .i64 (x4 : Int), .int .i64 (x5 : Int), .int .i64 (x6 : Int)]) hR rfl (by kernel_rfl) rfl (by kernel_rfl) (fun w hS => ex_load rfl (by kernel_rfl) (ld22 (hS.1) (hS.2.1) (hS.2.2.1) (hS.2.2.2.1) (hS.2.2.2.2.1) (hS.2.2.2.2.2.1) (hS.2.2.2.2.2.2.1))) (⟨bO1_0.1, bO1_1.1, bO1_2.1, bO1_3.1, bO1_4.1, bO1_5.1, bO1_6.1, bO5_0.1, bO5_1.1, bO5_2.1, bO5_3.1, bO5_4.1, bO5_5.1, bO5_6.1⟩) ?_
  refine wd_take 2 (.agg #[.int .i64 (y0 : Int), .int .i64 (y1 : Int), .int .i64 (y2 : Int), .int .i64 (y3 : Int), .int .i64 (y4 : Int), .int .i64 (y5 : Int), .int .i64 (y6 : Int)]) hR rfl (by kernel_rfl) rfl (by kernel_rfl) (fun w hS => ex_load rfl (by kernel_rfl) (ld22 (hS.2.2.2.2.2.2.2.1) (hS.2.2.2.2.2.2.2.2.1) (hS.2.2.2.2.2.2.2.2.2.1) (hS.2.2.2.2.2.2.2.2.2.2.1) (hS.2.2.2.2.2.2.2.2.2.2.2.1) (hS.2.2.2.2.2.2.2.2.2.2.2.2.1) (hS.2.2.2.2.2.2.2.2.2.2.2.2.2))) (⟨bO1_0.1, bO1_1.1, bO1_2.1, bO1_3.1, bO1_4.1, bO1_5.1, bO1_6.1, bO5_0.1, bO5_1.1, bO5_2.1, bO5_3.1, bO5_4.1, bO5_5.1, bO5_6.1⟩) ?_
  refine wd_step 1 hR rfl (by kernel_rfl) (by kernel_rfl) (by kernel_rfl) (sn_call (f := 5) (args := #[.agg #[.int .i64 (x0 : Int), .int .i64 (x1 : Int), .int .i64 (x2 : Int), .int .i64 (x3 : Int), .int .i64 (x4 : Int), .int .i64 (x5 : Int), .int .i64 (x6 : Int)]]) (by kernel_rfl) ((Made7_c _ _ _ _ _ _ _ _ ix0 ix1 ix2 ix3 ix4 ix5 ix6).mono ?_))
  rintro e w11 ⟨oA, rfl, hkoA, hsoA, hb⟩
  replace hE := hE.trans hb
  replace bO1_0 := BoxAt.ext hb bO1_0
  replace bO1_1 := BoxAt.ext hb bO1_1
  replace bO1_2 := BoxAt.ext hb bO1_2
  replace bO1_3 := BoxAt.ext hb bO1_3
  replace bO1_4 := BoxAt.ext hb bO1_4
  replace bO1_5 := BoxAt.ext hb bO1_5
  replace bO1_6 := BoxAt.ext hb bO1_6
  replace bO5_0 := BoxAt.ext hb bO5_0
  replace bO5_1 := BoxAt.ext hb bO5_1
  replace bO5_2 := BoxAt.ext hb bO5_2
  replace bO5_3 := BoxAt.ext hb bO5_3
  replace bO5_4 := BoxAt.ext hb bO5_4
  replace bO5_5 := BoxAt.ext hb bO5_5
  replace bO5_6 := BoxAt.ext hb bO5_6
  have hs12 := hb.size
  clear hb
  refine ⟨_, rfl, ⟨bO1_0.1, bO1_1.1, bO1_2.1, bO1_3.1, bO1_4.1, bO1_5.1, bO1_6.1, bO5_0.1, bO5_1.1, bO5_2.1, bO5_3.1, bO5_4.1, bO5_5.1, bO5_6.1⟩, ?_⟩
  refine wd_step 3 hR rfl (by kernel_rfl) (by kernel_rfl) (by kernel_rfl) (sn_call (f := 5) (args := #[.agg #[.int .i64 (y0 : Int), .int .i64 (y1 : Int), .int .i64 (y2 : Int), .int .i64 (y3 : Int), .int .i64 (y4 : Int), .int .i64 (y5 : Int), .int .i64 (y6 : Int)]]) (by kernel_rfl) ((Made7_c _ _ _ _ _ _ _ _ iy0 iy1 iy2 iy3 iy4 iy5 iy6).mono ?_))
  rintro e w13 ⟨oB, rfl, hkoB, hsoB, hb⟩
  replace hE := hE.trans hb
  replace bO1_0 := BoxAt.ext hb bO1_0
  replace bO1_1 := BoxAt.ext hb bO1_1
  replace bO1_2 := BoxAt.ext hb bO1_2
  replace bO1_3 := BoxAt.ext hb bO1_3
  replace bO1_4 := BoxAt.ext hb bO1_4
  replace bO1_5 := BoxAt.ext hb bO1_5
  replace bO1_6 := BoxAt.ext hb bO1_6
  replace bO5_0 := BoxAt.ext hb bO5_0
  replace bO5_1 := BoxAt.ext hb bO5_1
  replace bO5_2 := BoxAt.ext hb bO5_2
  replace bO5_3 := BoxAt.ext hb bO5_3
  replace bO5_4 := BoxAt.ext hb bO5_4
  replace bO5_5 := BoxAt.ext hb bO5_5
  replace bO5_6 := BoxAt.ext hb bO5_6
  have hs14 := hb.size
  clear hb
  refine ⟨_, rfl, ⟨bO1_0.1, bO1_1.1, bO1_2.1, bO1_3.1, bO1_4.1, bO1_5.1, bO1_6.1, bO5_0.1, bO5_1.1, bO5_2.1, bO5_3.1, bO5_4.1, bO5_5.1, bO5_6.1⟩, ?_⟩
  refine wd_step 4 hR rfl (by kernel_rfl) (by kernel_rfl) (by kernel_rfl) (sn_newS (us := #[.int .i64 (oA.p : Int), .int .i64 (oA.f : Int), .int .i64 (oA.lo : Int), .int .i64 (oA.hi : Int), .int .i64 (oA.nd : Int), .int .i64 (oA.tn : Int), .int .i64 (oA.sl : Int), .int .i64 (oB.p : Int), .int .i64 (oB.f : Int), .int .i64 (oB.lo : Int), .int .i64 (oB.hi : Int), .int .i64 (oB.nd : Int), .int .i64 (oB.tn : Int), .int .i64 (oB.sl : Int)]) (t := 26) (k := 2) (c := 2) (by kernel_rfl) ?_)
  intro O15 X16 hO hOs hb hbx
  have hzO15 := hO; have hyO15 := hOs; clear hO hOs
  have bO15_0 : BoxAt X16 O15 0 (.int .i64 (oA.p : Int)) := hbx 0 _ rfl
  have bO15_1 : BoxAt X16 O15 1 (.int .i64 (oA.f : Int)) := hbx 1 _ rfl
  have bO15_2 : BoxAt X16 O15 2 (.int .i64 (oA.lo : Int)) := hbx 2 _ rfl
  have bO15_3 : BoxAt X16 O15 3 (.int .i64 (oA.hi : Int)) := hbx 3 _ rfl
  have bO15_4 : BoxAt X16 O15 4 (.int .i64 (oA.nd : Int)) := hbx 4 _ rfl
  have bO15_5 : BoxAt X16 O15 5 (.int .i64 (oA.tn : Int)) := hbx 5 _ rfl
  have bO15_6 : BoxAt X16 O15 6 (.int .i64 (oA.sl : Int)) := hbx 6 _ rfl
  have bO15_7 : BoxAt X16 O15 7 (.int .i64 (oB.p : Int)) := hbx 7 _ rfl
  have bO15_8 : BoxAt X16 O15 8 (.int .i64 (oB.f : Int)) := hbx 8 _ rfl
  have bO15_9 : BoxAt X16 O15 9 (.int .i64 (oB.lo : Int)) := hbx 9 _ rfl
  have bO15_10 : BoxAt X16 O15 10 (.int .i64 (oB.hi : Int)) := hbx 10 _ rfl
  have bO15_11 : BoxAt X16 O15 11 (.int .i64 (oB.nd : Int)) := hbx 11 _ rfl
  have bO15_12 : BoxAt X16 O15 12 (.int .i64 (oB.tn : Int)) := hbx 12 _ rfl
  have bO15_13 : BoxAt X16 O15 13 (.int .i64 (oB.sl : Int)) := hbx 13 _ rfl
  clear hbx
  replace hE := hE.trans hb
  replace bO1_0 := BoxAt.ext hb bO1_0
  replace bO1_1 := BoxAt.ext hb bO1_1
  replace bO1_2 := BoxAt.ext hb bO1_2
  replace bO1_3 := BoxAt.ext hb bO1_3
  replace bO1_4 := BoxAt.ext hb bO1_4
  replace bO1_5 := BoxAt.ext hb bO1_5
  replace bO1_6 := BoxAt.ext hb bO1_6
  replace bO5_0 := BoxAt.ext hb bO5_0
  replace bO5_1 := BoxAt.ext hb bO5_1
  replace bO5_2 := BoxAt.ext hb bO5_2
  replace bO5_3 := BoxAt.ext hb bO5_3
  replace bO5_4 := BoxAt.ext hb bO5_4
  replace bO5_5 := BoxAt.ext hb bO5_5
  replace bO5_6 := BoxAt.ext hb bO5_6
  have hs17 := hb.size
  clear hb
  have lt18 := bO15_0.lt
  refine ⟨⟨bO1_0.1, bO1_1.1, bO1_2.1, bO1_3.1, bO1_4.1, bO1_5.1, bO1_6.1, bO5_0.1, bO5_1.1, bO5_2.1, bO5_3.1, bO5_4.1, bO5_5.1, bO5_6.1⟩, ?_⟩
  refine wd_take 5 (.slice (some ⟨O15, 0, none⟩) 2 2) hR rfl (by kernel_rfl) rfl (by kernel_rfl) (fun w _ => by kernel_rfl) (⟨bO1_0.1, bO1_1.1, bO1_2.1, bO1_3.1, bO1_4.1, bO1_5.1, bO1_6.1, bO5_0.1, bO5_1.1, bO5_2.1, bO5_3.1, bO5_4.1, bO5_5.1, bO5_6.1⟩) ?_
  refine wd_end hL hR hK (by kernel_rfl) ?_
  refine qw_then ?_
  refine cw_seq ?_
  refine cw_plain ?_
  refine pl_take (.slice none 0 0) rfl (by kernel_rfl) (by kernel_rfl) (by kernel_rfl) (by kernel_rfl) ?_
  refine pl_nil ?_
  refine qw_then ?_
  refine cw_clean [2, 3, 4, 11, 12] (ws' := [(2, .slice a2 n2 c2), (3, .slice a3 n3 c3), (4, .slice a4 n4 c4), (11, .slice (some ⟨O15, 0, none⟩) 2 2), (12, .slice none 0 0)]) (by kernel_rfl) (fun L => ?_)
  refine cw_seq ?_
  refine cw_plain ?_
  refine pl_take (.slice none 0 0) rfl (by kernel_rfl) (by kernel_rfl) (by kernel_rfl) (by kernel_rfl) ?_
  refine pl_nil ?_
  refine qw_then ?_
  refine cw_seq ?_
  refine cw_plain ?_
  refine pl_take (.slice none 0 0) rfl (by kernel_rfl) (by kernel_rfl) (by kernel_rfl) (by kernel_rfl) ?_
  refine pl_nil ?_
  refine qw_then ?_
  refine cw_seq ?_
  have hX19 : Ext X16 X16 := Ext.refl _
  refine cw_plain ?_
  refine pl_take (.slice a3 n3 c3) rfl (by kernel_rfl) (by kernel_rfl) (by kernel_rfl) (by kernel_rfl) ?_
  refine pl_step rfl (by kernel_rfl) (by kernel_rfl) (by kernel_rfl) (sn_call (f := 6) (args := #[.slice a3 n3 c3]) (by kernel_rfl) ((Area_c _ _ Q3 hE (by omega)).mono ?_))
  rintro e w23 ⟨B20, ar, rfl, hn21, hva, hr22, hb⟩
  replace hE := hE.trans hb
  replace hX19 := hX19.trans hb
  have hs24 := hb.size
  clear hb
  have hr22v := hr22.va hva
  have lt25 := hr22v.lt
  refine ⟨_, rfl, ?_⟩
  refine pl_step rfl (by kernel_rfl) (by kernel_rfl) (by kernel_rfl) (sn_new (us := #[.slice none 0 0]) (t := 33) (by kernel_rfl) ?_)
  intro O26 X27 hO hOs hb hbx
  have hzO26 := hO; have hyO26 := hOs; clear hO hOs
  have bO26_0 : BoxAt X27 O26 0 (.slice none 0 0) := hbx 0 _ rfl
  clear hbx
  replace hE := hE.trans hb
  replace hX19 := hX19.trans hb
  replace hr22v := hr22v.ext hb
  have hs28 := hb.size
  clear hb
  have lt29 := bO26_0.lt
  refine pl_put rfl (by kernel_rfl) (by kernel_rfl) (sn_set (O := O26) (j := 0) (v := .slice (some ⟨B20, 0, none⟩) 24 24) (ex_store (p := .pointer (some ⟨O26, 0, none⟩)) (v := .agg #[.slice (some ⟨B20, 0, none⟩) 24 24]) rfl (by kernel_rfl) (by kernel_rfl) (st33 bO26_0.1 bO26_0.2)) bO26_0 ?_)
  intro X30 ho hv0 hk
  replace hE := ho.ext hE (Nat.le_trans (Nat.le_trans hs3 (Nat.le_trans hs7 (Nat.le_trans hs10 (Nat.le_trans hs12 (Nat.le_trans hs14 (Nat.le_trans hs17 hs24)))))) (Nat.le_of_eq hzO26))
  replace hX19 := ho.ext hX19 (Nat.le_trans hs24 (Nat.le_of_eq hzO26))
  replace hr22v := ho.va (Nat.ne_of_gt (Nat.lt_of_lt_of_le lt25 (Nat.le_of_eq hzO26))) hr22v
  have hs31 : X27.heap.size ≤ X30.heap.size := Nat.le_of_eq ho.size.symm
  clear ho hk bO26_0
  have bO26_0 := hv0; clear hv0
  refine pl_nil ?_
  refine qw_then ?_
  refine cw_seq ?_
  refine cw_seq ?_
  refine cw_plain ?_
  refine pl_take (.int .i64 0) rfl (by kernel_rfl) (by kernel_rfl) (by kernel_rfl) (by kernel_rfl) ?_
  refine pl_nil ?_
  refine qw_then ?_
  refine cw_join (fun ws' wr => ∃ n9 : Nat, ∃ aS : Option Addr, ∃ cS : Nat, ∃ aP : Option Addr, ∃ cP : Nat, ∃ aR : Option Addr, ∃ cR : Nat, ∃ ys : List Top.Item, ∃ A : List Int, ∃ B9 : Nat, ∃ k9 : Nat, ws' = [(12, .slice aS n9 cS), (13, .slice aP n9 cP), (14, .slice aR n9 cR), (15, .pointer (some ⟨O26, 0, none⟩))] ∧ X30.heap.size ≤ wr.heap.size ∧ Ext w wr ∧ Ext X16 wr ∧ BoxAt wr O26 0 (.slice (some ⟨B9, 0, none⟩) 24 k9) ∧ VA wr B9 0 A ∧ StripsAt wr aS n9 (ys.map Top.Item.st) ∧ PcsAt wr aP n9 (ys.map Top.Item.pc) ∧ AreasR wr aR n9 ys ∧ ys.length = n9 ∧ n9 ≤ 8 ∧ Top.All ys ∧ Globe.validL A = true ∧ n9 ≤ cP) (fun hJ => ?_) ?_
  ·
    refine cw_block ?_
    refine cw_loop [2, 4, 11, 12, 13, 14, 15, 16] (fun ws' wr m => ∃ i : Nat, ∃ aS : Option Addr, ∃ cS : Nat, ∃ aP : Option Addr, ∃ cP : Nat, ∃ aR : Option Addr, ∃ cR : Nat, ∃ xs : List RX, ∃ ys : List Top.Item, ∃ T : Nat → Prop, ∃ A : List Int, ∃ B9 : Nat, ∃ k9 : Nat, ws' = [(2, .slice a2 n2 c2), (4, .slice a4 n4 c4), (11, .slice (some ⟨O15, 0, none⟩) 2 2), (12, .slice aS i cS), (13, .slice aP i cP), (14, .slice aR i cR), (15, .pointer (some ⟨O26, 0, none⟩)), (16, .int .i64 (((i : Nat) : Int) : Int))] ∧ m = 8 - i ∧ X30.heap.size ≤ wr.heap.size ∧ Ext w wr ∧ Ext X16 wr ∧ BoxAt wr O26 0 (.slice (some ⟨B9, 0, none⟩) 24 k9) ∧ OwnL ((rxR encS)) X30.heap.size 40 2 (.slice aS i cS) wr xs ∧ OwnL ((rxR encP)) X30.heap.size 49 4 (.slice aP i cP) wr xs ∧ OwnL ((rxR encA)) X30.heap.size 33 1 (.slice aR i cR) wr xs ∧ Rd T wr xs ys ∧ AllR T wr B9 A ∧ i ≤ n2 ∧ i ≤ 8 ∧ xs.length = i ∧ Top.All ys ∧ Globe.validL A = true ∧ Apart (.slice aS i cS) (.slice aP i cP) ∧ Apart (.slice aS i cS) (.slice aR i cR) ∧ Apart (.slice aP i cP) (.slice aR i cR) ∧ OutT (.slice aS i cS) T ∧ OutT (.slice aP i cP) T ∧ OutT (.slice aR i cR) T ∧ ¬ T O26 ∧ (∀ k, T k → k < wr.heap.size)) (ws0 := [(2, .slice a2 n2 c2), (4, .slice a4 n4 c4), (11, .slice (some ⟨O15, 0, none⟩) 2 2), (12, .slice none 0 0), (13, .slice none 0 0), (14, .slice none 0 0), (15, .pointer (some ⟨O26, 0, none⟩)), (16, .int .i64 0)]) (by kernel_rfl) _ ⟨0, none, 0, none, 0, none, 0, [], [], (fun k => k = B20), ar, B20, 24, rfl, rfl, Nat.le_refl _, hE, hX19, bO26_0, OwnL.nil _ _ _ _ _, OwnL.nil _ _ _ _ _, OwnL.nil _ _ _ _ _, (Rd.mono (Rd.nil _) (fun k h => h.elim)), ⟨hr22v, rfl⟩, Nat.zero_le _, Nat.zero_le _, rfl, Top.All.nil, hva, Apart.none _, Apart.none _, Apart.none _, (fun b h => by cases h), (fun b h => by cases h), (fun b h => by cases h), (fun h => (Nat.ne_of_gt (Nat.lt_of_lt_of_le lt25 (Nat.le_of_eq hzO26))) h), (fun k h => h ▸ (Nat.lt_of_lt_of_le lt25 (Nat.le_trans hs28 hs31)))⟩ ?_
    clear hr22v bO26_0 hE hX19
    rintro m35 L ws w34 ⟨i, aS, cS, aP, cP, aR, cR, xs, ys, T, A, B9, k9, rfl, rfl, hs33, hE, hX19, zA, ownS, ownP, ownR, hRd, hAl, hi, hi8, hxl, hAll, hvA, hap12, hap13, hap23, hT1, hT2, hT3, hTO, hTl⟩
    have hX36 : Ext w34 w34 := Ext.refl _
    have hbS := ownS.lt; have hbP := ownP.lt; have hbR := ownR.lt
    by_cases hlt : i < n2
    ·
      by_cases hlt8 : i < 8
      ·
        obtain ⟨b2, o2, rfl, hc2⟩ := Q2.resolve_left (by omega)
        obtain ⟨u0, iu0⟩ := hc2 i hlt 0 (by omega)
        obtain ⟨u1, iu1⟩ := hc2 i hlt 1 (by omega)
        obtain ⟨u2, iu2⟩ := hc2 i hlt 2 (by omega)
        obtain ⟨u3, iu3⟩ := hc2 i hlt 3 (by omega)
        refine cw_seq ?_
        refine cw_seq ?_
        refine cw_plain ?_
        refine pl_take (.int .i64 (((i : Nat) : Int) : Int)) rfl (by kernel_rfl) (by kernel_rfl) (by kernel_rfl) (by kernel_rfl) ?_
        refine pl_take (.slice (some ⟨b2, o2, none⟩) n2 c2) rfl (by kernel_rfl) (by kernel_rfl) (by kernel_rfl) (by kernel_rfl) ?_
        refine pl_take (.int .i64 (((n2 : Nat) : Int) : Int)) rfl (by kernel_rfl) (by kernel_rfl) (by kernel_rfl) (by kernel_rfl) ?_
        refine pl_take (.bool true) rfl (by kernel_rfl) (by kernel_rfl) (by kernel_rfl) (ev_dec (show _ = Result.ok (Next.value (Value.bool (decide ((((i : Nat) : Int) : Int) < (((n2 : Nat) : Int) : Int))))) _ from by kernel_rfl) (by omega)) ?_
        refine pl_take (.bool true) rfl (by kernel_rfl) (by kernel_rfl) (by kernel_rfl) (by kernel_rfl) ?_
        refine pl_take (.int .i64 (((i : Nat) : Int) : Int)) rfl (by kernel_rfl) (by kernel_rfl) (by kernel_rfl) (by kernel_rfl) ?_
        refine pl_take (.bool true) rfl (by kernel_rfl) (by kernel_rfl) (by kernel_rfl) (ev_dec (show _ = Result.ok (Next.value (Value.bool (decide ((((i : Nat) : Int) : Int) < (8 : Int))))) _ from by kernel_rfl) (by omega)) ?_
        refine pl_take (.bool true) rfl (by kernel_rfl) (by kernel_rfl) (by kernel_rfl) (by kernel_rfl) ?_
        refine pl_nil ?_
        refine qw_then ?_
        refine cw_clean [2, 4, 11, 12, 13, 14, 15, 16, 59] (ws' := [(2, .slice (some ⟨b2, o2, none⟩) n2 c2), (4, .slice a4 n4 c4), (11, .slice (some ⟨O15, 0, none⟩) 2 2), (12, .slice aS i cS), (13, .slice aP i cP), (14, .slice aR i cR), (15, .pointer (some ⟨O26, 0, none⟩)), (16, .int .i64 (((i : Nat) : Int) : Int)), (59, .bool true)]) (by kernel_rfl) (fun L => ?_)
        refine cw_t (by kernel_rfl) ?_
        refine cw_skip ?_
        refine qw_then ?_
        refine cw_seq ?_
        refine cw_block ?_
        refine cw_seq ?_
        refine cw_plain ?_
        refine pl_take (.slice (some ⟨O15, 0, none⟩) 2 2) rfl (by kernel_rfl) (by kernel_rfl) (by kernel_rfl) (by kernel_rfl) ?_
        refine pl_take (.slice (some ⟨b2, o2, none⟩) n2 c2) rfl (by kernel_rfl) (by kernel_rfl) (by kernel_rfl) (by kernel_rfl) ?_
        refine pl_take (.int .i64 (((i : Nat) : Int) : Int)) rfl (by kernel_rfl) (by kernel_rfl) (by kernel_rfl) (by kernel_rfl) ?_
        refine pl_take (.pointer (some ⟨b2, o2 + i * 4, none⟩)) rfl (by kernel_rfl) (by kernel_rfl) (by kernel_rfl) (ex_index (p := .slice (some ⟨b2, o2, none⟩) n2 c2) (i := .int .i64 ((i : Nat) : Int)) rfl (by kernel_rfl) (by kernel_rfl) (ix23 (k := i) (by omega))) ?_
        refine pl_take (.pointer (some ⟨b2, o2 + i * 4, none⟩)) rfl (by kernel_rfl) (by kernel_rfl) (by kernel_rfl) (by kernel_rfl) ?_
        refine pl_take (.int .i64 (q2 i 0 : Int)) rfl (by kernel_rfl) (by kernel_rfl) (by kernel_rfl) (ex_load rfl (by kernel_rfl) (ld3 ((hE.cell u0)))) ?_
        refine pl_step rfl (by kernel_rfl) (by kernel_rfl) (by kernel_rfl) (sn_call (f := 7) (args := #[.int .i64 (q2 i 0 : Int), .int .i64 2]) (by kernel_rfl) ((pickT_n (q2 i 0) 2 _ iu0 (by omega) (by omega)).mono ?_))
        rintro e w' ⟨pk37, rfl, pk37l, pk37p, rfl⟩
        obtain ⟨o, hok, hsl, z0, z1, z2, z3, z4, z5, z6⟩ : ∃ o : Orb, Orb.ok o = true ∧ o.sl ≤ 3 ∧ w34.cell? ⟨O15, pk37 * 7, none⟩ = some (.int .i64 o.p) ∧ w34.cell? ⟨O15, pk37 * 7 + 1, none⟩ = some (.int .i64 o.f) ∧ w34.cell? ⟨O15, pk37 * 7 + 2, none⟩ = some (.int .i64 o.lo) ∧ w34.cell? ⟨O15, pk37 * 7 + 3, none⟩ = some (.int .i64 o.hi) ∧ w34.cell? ⟨O15, pk37 * 7 + 4, none⟩ = some (.int .i64 o.nd) ∧ w34.cell? ⟨O15, pk37 * 7 + 5, none⟩ = some (.int .i64 o.tn) ∧ w34.cell? ⟨O15, pk37 * 7 + 6, none⟩ = some (.int .i64 o.sl) := by
          rcases Nat.lt_or_ge pk37 1 with q9 | q9
          · obtain rfl : pk37 = 0 := by omega
            exact ⟨oA, hkoA, hsoA, (BoxAt.ext hX19 bO15_0).1, (BoxAt.ext hX19 bO15_1).1, (BoxAt.ext hX19 bO15_2).1, (BoxAt.ext hX19 bO15_3).1, (BoxAt.ext hX19 bO15_4).1, (BoxAt.ext hX19 bO15_5).1, (BoxAt.ext hX19 bO15_6).1⟩
          · obtain rfl : pk37 = 1 := by omega
            exact ⟨oB, hkoB, hsoB, (BoxAt.ext hX19 bO15_7).1, (BoxAt.ext hX19 bO15_8).1, (BoxAt.ext hX19 bO15_9).1, (BoxAt.ext hX19 bO15_10).1, (BoxAt.ext hX19 bO15_11).1, (BoxAt.ext hX19 bO15_12).1, (BoxAt.ext hX19 bO15_13).1⟩
        have hq0 := Orb.ok_t.1 hok
        refine ⟨_, rfl, ?_⟩
        refine pl_take (.pointer (some ⟨O15, pk37 * 7, none⟩)) rfl (by kernel_rfl) (by kernel_rfl) (by kernel_rfl) (ex_index (p := .slice (some ⟨O15, 0, none⟩) 2 2) (i := .int .i64 ((pk37 : Nat) : Int)) rfl (by kernel_rfl) (by kernel_rfl) (ix28z (k := pk37) (by omega))) ?_
        refine pl_take (.agg #[.int .i64 (o.p : Int), .int .i64 (o.f : Int), .int .i64 (o.lo : Int), .int .i64 (o.hi : Int), .int .i64 (o.nd : Int), .int .i64 (o.tn : Int), .int .i64 (o.sl : Int)]) rfl (by kernel_rfl) (by kernel_rfl) (by kernel_rfl) (ex_load rfl (by kernel_rfl) (ld26 (z0) (z1) (z2) (z3) (z4) (z5) (z6))) ?_
        refine pl_step rfl (by kernel_rfl) (by kernel_rfl) (by kernel_rfl) (sn_new (us := #[.int .i64 0, .int .i64 0, .int .i64 0, .int .i64 0, .int .i64 0, .int .i64 0, .int .i64 0]) (t := 26) (by kernel_rfl) ?_)
        intro O38 X39 hO hOs hb hbx
        have hzO38 := hO; have hyO38 := hOs; clear hO hOs
        have bO38_0 : BoxAt X39 O38 0 (.int .i64 0) := hbx 0 _ rfl
        have bO38_1 : BoxAt X39 O38 1 (.int .i64 0) := hbx 1 _ rfl
        have bO38_2 : BoxAt X39 O38 2 (.int .i64 0) := hbx 2 _ rfl
        have bO38_3 : BoxAt X39 O38 3 (.int .i64 0) := hbx 3 _ rfl
        have bO38_4 : BoxAt X39 O38 4 (.int .i64 0) := hbx 4 _ rfl
        have bO38_5 : BoxAt X39 O38 5 (.int .i64 0) := hbx 5 _ rfl
        have bO38_6 : BoxAt X39 O38 6 (.int .i64 0) := hbx 6 _ rfl
        clear hbx
        replace hE := hE.trans hb
        replace hX19 := hX19.trans hb
        replace hX36 := hX36.trans hb
        have hs40 := hb.size
        clear hb
        have lt41 := bO38_0.lt
        refine pl_put rfl (by kernel_rfl) (by kernel_rfl) (sn_setK7 (O := O38) (j := 0) (v0 := .int .i64 (o.p : Int)) (v1 := .int .i64 (o.f : Int)) (v2 := .int .i64 (o.lo : Int)) (v3 := .int .i64 (o.hi : Int)) (v4 := .int .i64 (o.nd : Int)) (v5 := .int .i64 (o.tn : Int)) (v6 := .int .i64 (o.sl : Int)) (ex_store (p := .pointer (some ⟨O38, 0, none⟩)) (v := .agg #[.int .i64 (o.p : Int), .int .i64 (o.f : Int), .int .i64 (o.lo : Int), .int .i64 (o.hi : Int), .int .i64 (o.nd : Int), .int .i64 (o.tn : Int), .int .i64 (o.sl : Int)]) rfl (by kernel_rfl) (by kernel_rfl) (st26 bO38_0.1 bO38_0.2 bO38_1.1 bO38_1.2 bO38_2.1 bO38_2.2 bO38_3.1 bO38_3.2 bO38_4.1 bO38_4.2 bO38_5.1 bO38_5.2 bO38_6.1 bO38_6.2)) bO38_0 bO38_1 bO38_2 bO38_3 bO38_4 bO38_5 bO38_6 ?_)
        intro X42 ho hv0 hv1 hv2 hv3 hv4 hv5 hv6 hk
        replace hE := ho.ext hE (Nat.le_trans (Nat.le_trans hs3 (Nat.le_trans hs7 (Nat.le_trans hs10 (Nat.le_trans hs12 (Nat.le_trans hs14 (Nat.le_trans hs17 (Nat.le_trans hs24 (Nat.le_trans hs28 (Nat.le_trans hs31 hs33))))))))) (Nat.le_of_eq hzO38))
        replace hX19 := ho.ext hX19 (Nat.le_trans (Nat.le_trans hs24 (Nat.le_trans hs28 (Nat.le_trans hs31 hs33))) (Nat.le_of_eq hzO38))
        replace hX36 := ho.ext hX36 (Nat.le_of_eq hzO38)
        have hs43 : X39.heap.size ≤ X42.heap.size := Nat.le_of_eq ho.size.symm
        clear ho hk bO38_0 bO38_1 bO38_2 bO38_3 bO38_4 bO38_5 bO38_6
        have bO38_0 := hv0; clear hv0
        have bO38_1 := hv1; clear hv1
        have bO38_2 := hv2; clear hv2
        have bO38_3 := hv3; clear hv3
        have bO38_4 := hv4; clear hv4
        have bO38_5 := hv5; clear hv5
        have bO38_6 := hv6; clear hv6
        refine pl_nil ?_
        refine qw_then ?_
        refine cw_clean [2, 4, 11, 12, 13, 14, 15, 16, 17] (ws' := [(2, .slice (some ⟨b2, o2, none⟩) n2 c2), (4, .slice a4 n4 c4), (11, .slice (some ⟨O15, 0, none⟩) 2 2), (12, .slice aS i cS), (13, .slice aP i cP), (14, .slice aR i cR), (15, .pointer (some ⟨O26, 0, none⟩)), (16, .int .i64 (((i : Nat) : Int) : Int)), (17, .pointer (some ⟨O38, 0, none⟩))]) (by kernel_rfl) (fun L => ?_)
        refine cw_seq ?_
        refine cw_plain ?_
        refine pl_take (.slice (some ⟨b2, o2, none⟩) n2 c2) rfl (by kernel_rfl) (by kernel_rfl) (by kernel_rfl) (by kernel_rfl) ?_
        refine pl_take (.int .i64 (((i : Nat) : Int) : Int)) rfl (by kernel_rfl) (by kernel_rfl) (by kernel_rfl) (by kernel_rfl) ?_
        refine pl_take (.pointer (some ⟨b2, o2 + i * 4, none⟩)) rfl (by kernel_rfl) (by kernel_rfl) (by kernel_rfl) (ex_index (p := .slice (some ⟨b2, o2, none⟩) n2 c2) (i := .int .i64 ((i : Nat) : Int)) rfl (by kernel_rfl) (by kernel_rfl) (ix23 (k := i) (by omega))) ?_
        refine pl_take (.pointer (some ⟨b2, o2 + i * 4 + 1, none⟩)) rfl (by kernel_rfl) (by kernel_rfl) (by kernel_rfl) (by kernel_rfl) ?_
        refine pl_take (.int .i64 (q2 i 1 : Int)) rfl (by kernel_rfl) (by kernel_rfl) (by kernel_rfl) (ex_load rfl (by kernel_rfl) (ld3 ((hE.cell u1)))) ?_
        refine pl_step rfl (by kernel_rfl) (by kernel_rfl) (by kernel_rfl) (sn_call (f := 7) (args := #[.int .i64 (q2 i 1 : Int), .int .i64 4000]) (by kernel_rfl) ((pickT_n (q2 i 1) 4000 _ iu1 (by omega) (by omega)).mono ?_))
        rintro e w' ⟨pk44, rfl, pk44l, pk44p, rfl⟩
        refine ⟨_, rfl, ?_⟩
        refine pl_take (.int .i64 (((20 + pk44 : Nat) : Int) : Int)) rfl (by kernel_rfl) (by kernel_rfl) (by kernel_rfl) (ev_wrap (by kernel_rfl) (by omega) (by omega)) ?_
        refine pl_take (.agg #[.int .i64 (((20 + pk44 : Nat) : Int) : Int), .int .i64 0]) rfl (by kernel_rfl) (by kernel_rfl) (by kernel_rfl) (by kernel_rfl) ?_
        refine pl_step rfl (by kernel_rfl) (by kernel_rfl) (by kernel_rfl) (sn_new (us := #[.int .i64 0, .int .i64 0]) (t := 38) (by kernel_rfl) ?_)
        intro O45 X46 hO hOs hb hbx
        have hzO45 := hO; have hyO45 := hOs; clear hO hOs
        have bO45_0 : BoxAt X46 O45 0 (.int .i64 0) := hbx 0 _ rfl
        have bO45_1 : BoxAt X46 O45 1 (.int .i64 0) := hbx 1 _ rfl
        clear hbx
        replace hE := hE.trans hb
        replace hX19 := hX19.trans hb
        replace hX36 := hX36.trans hb
        replace bO38_0 := BoxAt.ext hb bO38_0
        replace bO38_1 := BoxAt.ext hb bO38_1
        replace bO38_2 := BoxAt.ext hb bO38_2
        replace bO38_3 := BoxAt.ext hb bO38_3
        replace bO38_4 := BoxAt.ext hb bO38_4
        replace bO38_5 := BoxAt.ext hb bO38_5
        replace bO38_6 := BoxAt.ext hb bO38_6
        have hs47 := hb.size
        clear hb
        have lt48 := bO45_0.lt
        refine pl_put rfl (by kernel_rfl) (by kernel_rfl) (sn_set2 (O := O45) (j := 0) (v := .int .i64 (((20 + pk44 : Nat) : Int) : Int)) (v' := .int .i64 0) (ex_store (p := .pointer (some ⟨O45, 0, none⟩)) (v := .agg #[.int .i64 (((20 + pk44 : Nat) : Int) : Int), .int .i64 0]) rfl (by kernel_rfl) (by kernel_rfl) (st38 bO45_0.1 bO45_0.2 bO45_1.1 bO45_1.2)) bO45_0 bO45_1 ?_)
        intro X49 ho hv0 hv1 hk
        replace hE := ho.ext hE (Nat.le_trans (Nat.le_trans hs3 (Nat.le_trans hs7 (Nat.le_trans hs10 (Nat.le_trans hs12 (Nat.le_trans hs14 (Nat.le_trans hs17 (Nat.le_trans hs24 (Nat.le_trans hs28 (Nat.le_trans hs31 (Nat.le_trans hs33 (Nat.le_trans hs40 hs43))))))))))) (Nat.le_of_eq hzO45))
        replace hX19 := ho.ext hX19 (Nat.le_trans (Nat.le_trans hs24 (Nat.le_trans hs28 (Nat.le_trans hs31 (Nat.le_trans hs33 (Nat.le_trans hs40 hs43))))) (Nat.le_of_eq hzO45))
        replace hX36 := ho.ext hX36 (Nat.le_trans (Nat.le_trans hs40 hs43) (Nat.le_of_eq hzO45))
        replace bO38_0 := ho.box (Nat.ne_of_gt (Nat.lt_of_lt_of_le lt41 (Nat.le_trans hs43 (Nat.le_of_eq hzO45)))) bO38_0
        replace bO38_1 := ho.box (Nat.ne_of_gt (Nat.lt_of_lt_of_le lt41 (Nat.le_trans hs43 (Nat.le_of_eq hzO45)))) bO38_1
        replace bO38_2 := ho.box (Nat.ne_of_gt (Nat.lt_of_lt_of_le lt41 (Nat.le_trans hs43 (Nat.le_of_eq hzO45)))) bO38_2
        replace bO38_3 := ho.box (Nat.ne_of_gt (Nat.lt_of_lt_of_le lt41 (Nat.le_trans hs43 (Nat.le_of_eq hzO45)))) bO38_3
        replace bO38_4 := ho.box (Nat.ne_of_gt (Nat.lt_of_lt_of_le lt41 (Nat.le_trans hs43 (Nat.le_of_eq hzO45)))) bO38_4
        replace bO38_5 := ho.box (Nat.ne_of_gt (Nat.lt_of_lt_of_le lt41 (Nat.le_trans hs43 (Nat.le_of_eq hzO45)))) bO38_5
        replace bO38_6 := ho.box (Nat.ne_of_gt (Nat.lt_of_lt_of_le lt41 (Nat.le_trans hs43 (Nat.le_of_eq hzO45)))) bO38_6
        have hs50 : X46.heap.size ≤ X49.heap.size := Nat.le_of_eq ho.size.symm
        clear ho hk bO45_0 bO45_1
        have bO45_0 := hv0; clear hv0
        have bO45_1 := hv1; clear hv1
        refine pl_nil ?_
        refine qw_then ?_
        refine cw_clean [2, 4, 11, 12, 13, 14, 15, 16, 17, 18] (ws' := [(2, .slice (some ⟨b2, o2, none⟩) n2 c2), (4, .slice a4 n4 c4), (11, .slice (some ⟨O15, 0, none⟩) 2 2), (12, .slice aS i cS), (13, .slice aP i cP), (14, .slice aR i cR), (15, .pointer (some ⟨O26, 0, none⟩)), (16, .int .i64 (((i : Nat) : Int) : Int)), (17, .pointer (some ⟨O38, 0, none⟩)), (18, .pointer (some ⟨O45, 0, none⟩))]) (by kernel_rfl) (fun L => ?_)
        refine cw_seq ?_
        refine cw_draw [(some 79, [18], []), (some 80, [79], [0]), (some 81, [80], [1]), (some 82, [2], []), (some 83, [16], []), (some 84, [82, 83], [3, 4]), (some 85, [84], [5]), (some 86, [85], [6]), (some 87, [86], [7]), (some 88, [81, 87], [2, 8]), (some 89, [18], [0, 1, 2, 3, 4, 5, 6, 7, 8, 9]), (none, [89, 88], [10, 9, 8, 0, 1, 2, 3, 4, 5, 6, 7, 8, 9])] (fun w' => w'.cell? ⟨O45, 0, none⟩ = some (.int .i64 (((20 + pk44 : Nat) : Int) : Int)) ∧ w'.cell? ⟨b2, o2 + i * 4 + 2, none⟩ = some (.int .i64 (q2 i 2 : Int))) (by kernel_rfl) (by kernel_rfl) (by kernel_rfl) (by kernel_rfl) ((calm_then (calm_block (calm_then (calm_then (calm_block (calm_then calm_body))))))) (⟨bO45_0.1, (hE.cell u2)⟩) (fun ops Q X51 hb hL hR hK => ?_)
        replace hE := hE.trans hb
        replace hX19 := hX19.trans hb
        replace hX36 := hX36.trans hb
        replace bO38_0 := BoxAt.ext hb bO38_0
        replace bO38_1 := BoxAt.ext hb bO38_1
        replace bO38_2 := BoxAt.ext hb bO38_2
        replace bO38_3 := BoxAt.ext hb bO38_3
        replace bO38_4 := BoxAt.ext hb bO38_4
        replace bO38_5 := BoxAt.ext hb bO38_5
        replace bO38_6 := BoxAt.ext hb bO38_6
        replace bO45_0 := BoxAt.ext hb bO45_0
        replace bO45_1 := BoxAt.ext hb bO45_1
        have hs52 := hb.size
        clear hb
        refine wd_take 0 (.pointer (some ⟨O45, 0, none⟩)) hR rfl (by kernel_rfl) rfl (by kernel_rfl) (fun w _ => by kernel_rfl) (⟨bO45_0.1, (hE.cell u2)⟩) ?_
        refine wd_take 1 (.int .i64 (((20 + pk44 : Nat) : Int) : Int)) hR rfl (by kernel_rfl) rfl (by kernel_rfl) (fun w hS => ex_load rfl (by kernel_rfl) (ld3 (hS.1))) (⟨bO45_0.1, (hE.cell u2)⟩) ?_
        refine wd_take 2 (.int .i64 ((((20 + pk44) + 1 : Nat) : Int) : Int)) hR rfl (by kernel_rfl) rfl (by kernel_rfl) (fun w _ => ev_wrap (by kernel_rfl) (by omega) (by omega)) (⟨bO45_0.1, (hE.cell u2)⟩) ?_
        refine wd_take 3 (.slice (some ⟨b2, o2, none⟩) n2 c2) hR rfl (by kernel_rfl) rfl (by kernel_rfl) (fun w _ => by kernel_rfl) (⟨bO45_0.1, (hE.cell u2)⟩) ?_
        refine wd_take 4 (.int .i64 (((i : Nat) : Int) : Int)) hR rfl (by kernel_rfl) rfl (by kernel_rfl) (fun w _ => by kernel_rfl) (⟨bO45_0.1, (hE.cell u2)⟩) ?_
        refine wd_take 5 (.pointer (some ⟨b2, o2 + i * 4, none⟩)) hR rfl (by kernel_rfl) rfl (by kernel_rfl) (fun w _ => ex_index (p := .slice (some ⟨b2, o2, none⟩) n2 c2) (i := .int .i64 ((i : Nat) : Int)) rfl (by kernel_rfl) (by kernel_rfl) (ix23 (k := i) (by omega))) (⟨bO45_0.1, (hE.cell u2)⟩) ?_
        refine wd_take 6 (.pointer (some ⟨b2, o2 + i * 4 + 2, none⟩)) hR rfl (by kernel_rfl) rfl (by kernel_rfl) (fun w _ => by kernel_rfl) (⟨bO45_0.1, (hE.cell u2)⟩) ?_
        refine wd_take 7 (.int .i64 (q2 i 2 : Int)) hR rfl (by kernel_rfl) rfl (by kernel_rfl) (fun w hS => ex_load rfl (by kernel_rfl) (ld3 (hS.2))) (⟨bO45_0.1, (hE.cell u2)⟩) ?_
        refine wd_step 8 hR rfl (by kernel_rfl) (by kernel_rfl) (by kernel_rfl) (sn_call (f := 7) (args := #[.int .i64 (q2 i 2 : Int), .int .i64 40]) (by kernel_rfl) ((pickT_n (q2 i 2) 40 _ iu2 (by omega) (by omega)).mono ?_))
        rintro e w' ⟨pk53, rfl, pk53l, pk53p, rfl⟩
        refine ⟨_, rfl, ⟨bO45_0.1, (hE.cell u2)⟩, ?_⟩
        refine wd_take 9 (.int .i64 (((((20 + pk44) + 1) + pk53 : Nat) : Int) : Int)) hR rfl (by kernel_rfl) rfl (by kernel_rfl) (fun w _ => ev_wrap (by kernel_rfl) (by omega) (by omega)) (⟨bO45_0.1, (hE.cell u2)⟩) ?_
        refine wd_take 10 (.pointer (some ⟨O45, 1, none⟩)) hR rfl (by kernel_rfl) rfl (by kernel_rfl) (fun w _ => by kernel_rfl) (⟨bO45_0.1, (hE.cell u2)⟩) ?_
        refine wd_step 11 hR rfl (by kernel_rfl) (by kernel_rfl) (by kernel_rfl) (sn_set (O := O45) (j := 1) (v := .int .i64 (((((20 + pk44) + 1) + pk53 : Nat) : Int) : Int)) (ex_store (p := .pointer (some ⟨O45, 1, none⟩)) (v := .int .i64 (((((20 + pk44) + 1) + pk53 : Nat) : Int) : Int)) rfl (by kernel_rfl) (by kernel_rfl) (st3 bO45_1.1 bO45_1.2)) bO45_1 ?_)
        intro X54 ho hv0 hk
        replace hE := ho.ext hE (Nat.le_trans (Nat.le_trans hs3 (Nat.le_trans hs7 (Nat.le_trans hs10 (Nat.le_trans hs12 (Nat.le_trans hs14 (Nat.le_trans hs17 (Nat.le_trans hs24 (Nat.le_trans hs28 (Nat.le_trans hs31 (Nat.le_trans hs33 (Nat.le_trans hs40 hs43))))))))))) (Nat.le_of_eq hzO45))
        replace hX19 := ho.ext hX19 (Nat.le_trans (Nat.le_trans hs24 (Nat.le_trans hs28 (Nat.le_trans hs31 (Nat.le_trans hs33 (Nat.le_trans hs40 hs43))))) (Nat.le_of_eq hzO45))
        replace hX36 := ho.ext hX36 (Nat.le_trans (Nat.le_trans hs40 hs43) (Nat.le_of_eq hzO45))
        replace bO38_0 := ho.box (Nat.ne_of_gt (Nat.lt_of_lt_of_le lt41 (Nat.le_trans hs43 (Nat.le_of_eq hzO45)))) bO38_0
        replace bO38_1 := ho.box (Nat.ne_of_gt (Nat.lt_of_lt_of_le lt41 (Nat.le_trans hs43 (Nat.le_of_eq hzO45)))) bO38_1
        replace bO38_2 := ho.box (Nat.ne_of_gt (Nat.lt_of_lt_of_le lt41 (Nat.le_trans hs43 (Nat.le_of_eq hzO45)))) bO38_2
        replace bO38_3 := ho.box (Nat.ne_of_gt (Nat.lt_of_lt_of_le lt41 (Nat.le_trans hs43 (Nat.le_of_eq hzO45)))) bO38_3
        replace bO38_4 := ho.box (Nat.ne_of_gt (Nat.lt_of_lt_of_le lt41 (Nat.le_trans hs43 (Nat.le_of_eq hzO45)))) bO38_4
        replace bO38_5 := ho.box (Nat.ne_of_gt (Nat.lt_of_lt_of_le lt41 (Nat.le_trans hs43 (Nat.le_of_eq hzO45)))) bO38_5
        replace bO38_6 := ho.box (Nat.ne_of_gt (Nat.lt_of_lt_of_le lt41 (Nat.le_trans hs43 (Nat.le_of_eq hzO45)))) bO38_6
        replace bO45_0 := hk 0 _ (by omega) bO45_0
        have hs55 : X51.heap.size ≤ X54.heap.size := Nat.le_of_eq ho.size.symm
        clear ho hk bO45_1
        have bO45_1 := hv0; clear hv0
        refine ⟨⟨bO45_0.1, (hE.cell u2)⟩, ?_⟩
        refine wd_end hL hR hK (by kernel_rfl) ?_
        refine qw_then ?_
        refine cw_clean [2, 4, 11, 12, 13, 14, 15, 16, 17, 18] (ws' := [(2, .slice (some ⟨b2, o2, none⟩) n2 c2), (4, .slice a4 n4 c4), (11, .slice (some ⟨O15, 0, none⟩) 2 2), (12, .slice aS i cS), (13, .slice aP i cP), (14, .slice aR i cR), (15, .pointer (some ⟨O26, 0, none⟩)), (16, .int .i64 (((i : Nat) : Int) : Int)), (17, .pointer (some ⟨O38, 0, none⟩)), (18, .pointer (some ⟨O45, 0, none⟩))]) (by kernel_rfl) (fun L => ?_)
        refine cw_seq ?_
        refine cw_plain ?_
        refine pl_take (.slice (some ⟨b2, o2, none⟩) n2 c2) rfl (by kernel_rfl) (by kernel_rfl) (by kernel_rfl) (by kernel_rfl) ?_
        refine pl_take (.int .i64 (((i : Nat) : Int) : Int)) rfl (by kernel_rfl) (by kernel_rfl) (by kernel_rfl) (by kernel_rfl) ?_
        refine pl_take (.pointer (some ⟨b2, o2 + i * 4, none⟩)) rfl (by kernel_rfl) (by kernel_rfl) (by kernel_rfl) (ex_index (p := .slice (some ⟨b2, o2, none⟩) n2 c2) (i := .int .i64 ((i : Nat) : Int)) rfl (by kernel_rfl) (by kernel_rfl) (ix23 (k := i) (by omega))) ?_
        refine pl_take (.pointer (some ⟨b2, o2 + i * 4 + 3, none⟩)) rfl (by kernel_rfl) (by kernel_rfl) (by kernel_rfl) (by kernel_rfl) ?_
        refine pl_take (.int .i64 (q2 i 3 : Int)) rfl (by kernel_rfl) (by kernel_rfl) (by kernel_rfl) (ex_load rfl (by kernel_rfl) (ld3 ((hE.cell u3)))) ?_
        refine pl_step rfl (by kernel_rfl) (by kernel_rfl) (by kernel_rfl) (sn_call (f := 7) (args := #[.int .i64 (q2 i 3 : Int), .int .i64 9]) (by kernel_rfl) ((pickT_n (q2 i 3) 9 _ iu3 (by omega) (by omega)).mono ?_))
        rintro e w' ⟨pk56, rfl, pk56l, pk56p, rfl⟩
        refine ⟨_, rfl, ?_⟩
        refine pl_take (.int .i64 ((((pk56 : Nat) : Int)) - 4 : Int)) rfl (by kernel_rfl) (by kernel_rfl) (by kernel_rfl) (ev_wrap (by kernel_rfl) (by omega) (by omega)) ?_
        refine pl_take (.int .i64 ((((pk56 : Nat) : Int)) - 4 : Int)) rfl (by kernel_rfl) (by kernel_rfl) (by kernel_rfl) (by kernel_rfl) ?_
        refine pl_nil ?_
        refine qw_then ?_
        refine cw_clean [2, 4, 11, 12, 13, 14, 15, 16, 17, 18, 19] (ws' := [(2, .slice (some ⟨b2, o2, none⟩) n2 c2), (4, .slice a4 n4 c4), (11, .slice (some ⟨O15, 0, none⟩) 2 2), (12, .slice aS i cS), (13, .slice aP i cP), (14, .slice aR i cR), (15, .pointer (some ⟨O26, 0, none⟩)), (16, .int .i64 (((i : Nat) : Int) : Int)), (17, .pointer (some ⟨O38, 0, none⟩)), (18, .pointer (some ⟨O45, 0, none⟩)), (19, .int .i64 ((((pk56 : Nat) : Int)) - 4 : Int))]) (by kernel_rfl) (fun L => ?_)
        refine cw_seq ?_
        obtain ⟨s, hs1, hs2⟩ : ∃ s : Int × Int, (((20 + pk44 : Nat) : Int) : Int) = s.1 ∧ (((((20 + pk44) + 1) + pk53 : Nat) : Int) : Int) = s.2 := ⟨(_, _), rfl, rfl⟩
        rw [hs1] at bO45_0
        rw [hs2] at bO45_1
        refine cw_plain ?_
        refine pl_take (.agg #[.int .i64 (o.p : Int), .int .i64 (o.f : Int), .int .i64 (o.lo : Int), .int .i64 (o.hi : Int), .int .i64 (o.nd : Int), .int .i64 (o.tn : Int), .int .i64 (o.sl : Int)]) rfl (by kernel_rfl) (by kernel_rfl) (by kernel_rfl) (ex_load rfl (by kernel_rfl) (ld26 (bO38_0.1) (bO38_1.1) (bO38_2.1) (bO38_3.1) (bO38_4.1) (bO38_5.1) (bO38_6.1))) ?_
        refine pl_take (.agg #[.int .i64 (s.1 : Int), .int .i64 (s.2 : Int)]) rfl (by kernel_rfl) (by kernel_rfl) (by kernel_rfl) (ex_load rfl (by kernel_rfl) (ld38 (bO45_0.1) (bO45_1.1))) ?_
        refine pl_take (.int .i64 ((((pk56 : Nat) : Int)) - 4 : Int)) rfl (by kernel_rfl) (by kernel_rfl) (by kernel_rfl) (by kernel_rfl) ?_
        refine pl_step rfl (by kernel_rfl) (by kernel_rfl) (by kernel_rfl) (sn_call (f := 8) (args := #[.agg #[.int .i64 (o.p : Int), .int .i64 (o.f : Int), .int .i64 (o.lo : Int), .int .i64 (o.hi : Int), .int .i64 (o.nd : Int), .int .i64 (o.tn : Int), .int .i64 (o.sl : Int)], .agg #[.int .i64 (s.1 : Int), .int .i64 (s.2 : Int)], .int .i64 ((((pk56 : Nat) : Int)) - 4 : Int)]) (by kernel_rfl) ((Strip_y (o := o) (s := s) (lk := (((pk56 : Nat) : Int)) - 4) _ (Swath.shB_t.2 ⟨hok, ⟨by first | omega | (simp only []; omega), by first | omega | (simp only []; omega), by first | omega | (simp only []; omega), by first | omega | (simp only []; omega)⟩, by omega, by omega⟩)).mono ?_))
        rintro e w66 ⟨B57, g58, k59, k60, rfl, hn61, hn62, hne63, hr64, hr65, hb⟩
        replace hE := hE.trans hb
        replace hX19 := hX19.trans hb
        replace hX36 := hX36.trans hb
        replace bO38_0 := BoxAt.ext hb bO38_0
        replace bO38_1 := BoxAt.ext hb bO38_1
        replace bO38_2 := BoxAt.ext hb bO38_2
        replace bO38_3 := BoxAt.ext hb bO38_3
        replace bO38_4 := BoxAt.ext hb bO38_4
        replace bO38_5 := BoxAt.ext hb bO38_5
        replace bO38_6 := BoxAt.ext hb bO38_6
        replace bO45_0 := BoxAt.ext hb bO45_0
        replace bO45_1 := BoxAt.ext hb bO45_1
        have hs67 := hb.size
        clear hb
        have lt68 := hr64.lt
        have lt69 := hr65.lt
        have hne63h := Lib.hid hne63
        refine ⟨_, rfl, ?_⟩
        refine pl_take (.tuple #[.agg #[.slice (some ⟨B57, 0, none⟩) 24 k59, .slice (some ⟨g58, 0, none⟩) 24 k60], .int .i64 0]) rfl (by kernel_rfl) (by kernel_rfl) (by kernel_rfl) (by kernel_rfl) ?_
        refine pl_take (.agg #[.slice (some ⟨B57, 0, none⟩) 24 k59, .slice (some ⟨g58, 0, none⟩) 24 k60]) rfl (by kernel_rfl) (by kernel_rfl) (by kernel_rfl) (by kernel_rfl) ?_
        refine pl_take (.int .i64 0) rfl (by kernel_rfl) (by kernel_rfl) (by kernel_rfl) (by kernel_rfl) ?_
        refine pl_step rfl (by kernel_rfl) (by kernel_rfl) (by kernel_rfl) (sn_new (us := #[.slice none 0 0, .slice none 0 0]) (t := 40) (by kernel_rfl) ?_)
        intro O70 X71 hO hOs hb hbx
        have hzO70 := hO; have hyO70 := hOs; clear hO hOs
        have bO70_0 : BoxAt X71 O70 0 (.slice none 0 0) := hbx 0 _ rfl
        have bO70_1 : BoxAt X71 O70 1 (.slice none 0 0) := hbx 1 _ rfl
        clear hbx
        replace hE := hE.trans hb
        replace hX19 := hX19.trans hb
        replace hX36 := hX36.trans hb
        replace bO38_0 := BoxAt.ext hb bO38_0
        replace bO38_1 := BoxAt.ext hb bO38_1
        replace bO38_2 := BoxAt.ext hb bO38_2
        replace bO38_3 := BoxAt.ext hb bO38_3
        replace bO38_4 := BoxAt.ext hb bO38_4
        replace bO38_5 := BoxAt.ext hb bO38_5
        replace bO38_6 := BoxAt.ext hb bO38_6
        replace bO45_0 := BoxAt.ext hb bO45_0
        replace bO45_1 := BoxAt.ext hb bO45_1
        replace hr64 := hr64.ext hb
        replace hr65 := hr65.ext hb
        have hs72 := hb.size
        clear hb
        have lt73 := bO70_0.lt
        refine pl_put rfl (by kernel_rfl) (by kernel_rfl) (sn_set2 (O := O70) (j := 0) (v := .slice (some ⟨B57, 0, none⟩) 24 k59) (v' := .slice (some ⟨g58, 0, none⟩) 24 k60) (ex_store (p := .pointer (some ⟨O70, 0, none⟩)) (v := .agg #[.slice (some ⟨B57, 0, none⟩) 24 k59, .slice (some ⟨g58, 0, none⟩) 24 k60]) rfl (by kernel_rfl) (by kernel_rfl) (st40 bO70_0.1 bO70_0.2 bO70_1.1 bO70_1.2)) bO70_0 bO70_1 ?_)
        intro X74 ho hv0 hv1 hk
        replace hE := ho.ext hE (Nat.le_trans (Nat.le_trans hs3 (Nat.le_trans hs7 (Nat.le_trans hs10 (Nat.le_trans hs12 (Nat.le_trans hs14 (Nat.le_trans hs17 (Nat.le_trans hs24 (Nat.le_trans hs28 (Nat.le_trans hs31 (Nat.le_trans hs33 (Nat.le_trans hs40 (Nat.le_trans hs43 (Nat.le_trans hs47 (Nat.le_trans hs50 (Nat.le_trans hs52 (Nat.le_trans hs55 hs67)))))))))))))))) (Nat.le_of_eq hzO70))
        replace hX19 := ho.ext hX19 (Nat.le_trans (Nat.le_trans hs24 (Nat.le_trans hs28 (Nat.le_trans hs31 (Nat.le_trans hs33 (Nat.le_trans hs40 (Nat.le_trans hs43 (Nat.le_trans hs47 (Nat.le_trans hs50 (Nat.le_trans hs52 (Nat.le_trans hs55 hs67)))))))))) (Nat.le_of_eq hzO70))
        replace hX36 := ho.ext hX36 (Nat.le_trans (Nat.le_trans hs40 (Nat.le_trans hs43 (Nat.le_trans hs47 (Nat.le_trans hs50 (Nat.le_trans hs52 (Nat.le_trans hs55 hs67)))))) (Nat.le_of_eq hzO70))
        replace bO38_0 := ho.box (Nat.ne_of_gt (Nat.lt_of_lt_of_le lt41 (Nat.le_trans (Nat.le_trans hs43 (Nat.le_trans hs47 (Nat.le_trans hs50 (Nat.le_trans hs52 (Nat.le_trans hs55 hs67))))) (Nat.le_of_eq hzO70)))) bO38_0
        replace bO38_1 := ho.box (Nat.ne_of_gt (Nat.lt_of_lt_of_le lt41 (Nat.le_trans (Nat.le_trans hs43 (Nat.le_trans hs47 (Nat.le_trans hs50 (Nat.le_trans hs52 (Nat.le_trans hs55 hs67))))) (Nat.le_of_eq hzO70)))) bO38_1
        replace bO38_2 := ho.box (Nat.ne_of_gt (Nat.lt_of_lt_of_le lt41 (Nat.le_trans (Nat.le_trans hs43 (Nat.le_trans hs47 (Nat.le_trans hs50 (Nat.le_trans hs52 (Nat.le_trans hs55 hs67))))) (Nat.le_of_eq hzO70)))) bO38_2
        replace bO38_3 := ho.box (Nat.ne_of_gt (Nat.lt_of_lt_of_le lt41 (Nat.le_trans (Nat.le_trans hs43 (Nat.le_trans hs47 (Nat.le_trans hs50 (Nat.le_trans hs52 (Nat.le_trans hs55 hs67))))) (Nat.le_of_eq hzO70)))) bO38_3
        replace bO38_4 := ho.box (Nat.ne_of_gt (Nat.lt_of_lt_of_le lt41 (Nat.le_trans (Nat.le_trans hs43 (Nat.le_trans hs47 (Nat.le_trans hs50 (Nat.le_trans hs52 (Nat.le_trans hs55 hs67))))) (Nat.le_of_eq hzO70)))) bO38_4
        replace bO38_5 := ho.box (Nat.ne_of_gt (Nat.lt_of_lt_of_le lt41 (Nat.le_trans (Nat.le_trans hs43 (Nat.le_trans hs47 (Nat.le_trans hs50 (Nat.le_trans hs52 (Nat.le_trans hs55 hs67))))) (Nat.le_of_eq hzO70)))) bO38_5
        replace bO38_6 := ho.box (Nat.ne_of_gt (Nat.lt_of_lt_of_le lt41 (Nat.le_trans (Nat.le_trans hs43 (Nat.le_trans hs47 (Nat.le_trans hs50 (Nat.le_trans hs52 (Nat.le_trans hs55 hs67))))) (Nat.le_of_eq hzO70)))) bO38_6
        replace bO45_0 := ho.box (Nat.ne_of_gt (Nat.lt_of_lt_of_le lt48 (Nat.le_trans (Nat.le_trans hs50 (Nat.le_trans hs52 (Nat.le_trans hs55 hs67))) (Nat.le_of_eq hzO70)))) bO45_0
        replace bO45_1 := ho.box (Nat.ne_of_gt (Nat.lt_of_lt_of_le lt48 (Nat.le_trans (Nat.le_trans hs50 (Nat.le_trans hs52 (Nat.le_trans hs55 hs67))) (Nat.le_of_eq hzO70)))) bO45_1
        replace hr64 := ho.rows (Nat.ne_of_gt (Nat.lt_of_lt_of_le lt68 (Nat.le_of_eq hzO70))) hr64
        replace hr65 := ho.rows (Nat.ne_of_gt (Nat.lt_of_lt_of_le lt69 (Nat.le_of_eq hzO70))) hr65
        have hs75 : X71.heap.size ≤ X74.heap.size := Nat.le_of_eq ho.size.symm
        clear ho hk bO70_0 bO70_1
        have bO70_0 := hv0; clear hv0
        have bO70_1 := hv1; clear hv1
        refine pl_take (.int .i64 0) rfl (by kernel_rfl) (by kernel_rfl) (by kernel_rfl) (by kernel_rfl) ?_
        refine pl_nil ?_
        refine qw_then ?_
        refine cw_clean [2, 4, 11, 12, 13, 14, 15, 16, 17, 18, 19, 20, 21] (ws' := [(2, .slice (some ⟨b2, o2, none⟩) n2 c2), (4, .slice a4 n4 c4), (11, .slice (some ⟨O15, 0, none⟩) 2 2), (12, .slice aS i cS), (13, .slice aP i cP), (14, .slice aR i cR), (15, .pointer (some ⟨O26, 0, none⟩)), (16, .int .i64 (((i : Nat) : Int) : Int)), (17, .pointer (some ⟨O38, 0, none⟩)), (18, .pointer (some ⟨O45, 0, none⟩)), (19, .int .i64 ((((pk56 : Nat) : Int)) - 4 : Int)), (20, .pointer (some ⟨O70, 0, none⟩)), (21, .int .i64 0)]) (by kernel_rfl) (fun L => ?_)
        refine cw_seq ?_
        refine cw_plain ?_
        refine pl_take (.int .i64 0) rfl (by kernel_rfl) (by kernel_rfl) (by kernel_rfl) (by kernel_rfl) ?_
        refine pl_nil ?_
        refine qw_then ?_
        refine cw_seq ?_
        refine cw_seq ?_
        obtain ⟨qd, hqd⟩ : ∃ q, decide (((i : Nat) : Int) < ((n4 : Nat) : Int)) = q := ⟨_, rfl⟩
        refine cw_plain ?_
        refine pl_take (.int .i64 (((i : Nat) : Int) : Int)) rfl (by kernel_rfl) (by kernel_rfl) (by kernel_rfl) (by kernel_rfl) ?_
        refine pl_take (.slice a4 n4 c4) rfl (by kernel_rfl) (by kernel_rfl) (by kernel_rfl) (by kernel_rfl) ?_
        refine pl_take (.int .i64 (((n4 : Nat) : Int) : Int)) rfl (by kernel_rfl) (by kernel_rfl) (by kernel_rfl) (by kernel_rfl) ?_
        refine pl_take (.bool qd) rfl (by kernel_rfl) (by kernel_rfl) (by kernel_rfl) (ev_bool (show _ = Result.ok (Next.value (Value.bool (decide (((i : Nat) : Int) < ((n4 : Nat) : Int))))) _ from by kernel_rfl) hqd) ?_
        refine pl_nil ?_
        refine qw_then ?_
        refine cw_clean [2, 4, 11, 12, 13, 14, 15, 16, 17, 18, 19, 20, 21, 22, 107] (ws' := [(2, .slice (some ⟨b2, o2, none⟩) n2 c2), (4, .slice a4 n4 c4), (11, .slice (some ⟨O15, 0, none⟩) 2 2), (12, .slice aS i cS), (13, .slice aP i cP), (14, .slice aR i cR), (15, .pointer (some ⟨O26, 0, none⟩)), (16, .int .i64 (((i : Nat) : Int) : Int)), (17, .pointer (some ⟨O38, 0, none⟩)), (18, .pointer (some ⟨O45, 0, none⟩)), (19, .int .i64 ((((pk56 : Nat) : Int)) - 4 : Int)), (20, .pointer (some ⟨O70, 0, none⟩)), (21, .int .i64 0), (22, .int .i64 0), (107, .bool qd)]) (by kernel_rfl) (fun L => ?_)
        have hX76 : Ext X74 X74 := Ext.refl _
        refine cw_join (fun ws' wr => ∃ dl : Int, ws' = [(2, .slice (some ⟨b2, o2, none⟩) n2 c2), (4, .slice a4 n4 c4), (11, .slice (some ⟨O15, 0, none⟩) 2 2), (12, .slice aS i cS), (13, .slice aP i cP), (14, .slice aR i cR), (15, .pointer (some ⟨O26, 0, none⟩)), (16, .int .i64 (((i : Nat) : Int) : Int)), (17, .pointer (some ⟨O38, 0, none⟩)), (18, .pointer (some ⟨O45, 0, none⟩)), (19, .int .i64 ((((pk56 : Nat) : Int)) - 4 : Int)), (20, .pointer (some ⟨O70, 0, none⟩)), (21, .int .i64 0), (22, .int .i64 (dl : Int))] ∧ X74.heap.size ≤ wr.heap.size ∧ Ext w wr ∧ Ext X16 wr ∧ Ext w34 wr ∧ Ext X74 wr ∧ -o.sl ≤ dl ∧ dl ≤ o.sl) (fun hJ => ?_) ?_
        ·
          cases qd
          ·
            refine cw_f (by kernel_rfl) ?_
            refine cw_skip ?_
            exact qw_leaf hJ [2, 4, 11, 12, 13, 14, 15, 16, 17, 18, 19, 20, 21, 22] (ws' := [(2, .slice (some ⟨b2, o2, none⟩) n2 c2), (4, .slice a4 n4 c4), (11, .slice (some ⟨O15, 0, none⟩) 2 2), (12, .slice aS i cS), (13, .slice aP i cP), (14, .slice aR i cR), (15, .pointer (some ⟨O26, 0, none⟩)), (16, .int .i64 (((i : Nat) : Int) : Int)), (17, .pointer (some ⟨O38, 0, none⟩)), (18, .pointer (some ⟨O45, 0, none⟩)), (19, .int .i64 ((((pk56 : Nat) : Int)) - 4 : Int)), (20, .pointer (some ⟨O70, 0, none⟩)), (21, .int .i64 0), (22, .int .i64 0)]) (by kernel_rfl) ⟨(0 : Int), rfl, (Nat.le_refl _), hE, hX19, hX36, (Ext.refl _), by omega, by omega⟩
          ·
            obtain ⟨b4, o4, rfl, hc4⟩ := I4.resolve_left (by have := of_decide_eq_true hqd; omega)
            have hi4 : i < n4 := by have := of_decide_eq_true hqd; omega
            obtain ⟨u4, iu4⟩ := hc4 i hi4
            refine cw_t (by kernel_rfl) ?_
            refine cw_draw [(some 108, [4], []), (some 109, [16], []), (some 110, [108, 109], [0, 1]), (some 111, [110], [2]), (some 112, [17], []), (some 113, [112], [4]), (some 114, [113], [5]), (some 115, [114], [6]), (some 116, [111, 115], [3, 7]), (some 117, [17], []), (some 118, [117], [9]), (some 119, [116, 118], [8, 10]), (some 22, [119], [11, 8, 0, 1, 2, 3, 4, 5, 6, 7, 8, 9, 10, 11])] (fun w' => w'.cell? ⟨b4, o4 + i, none⟩ = some (.int .i64 (q4 i : Int)) ∧ w'.cell? ⟨O38, 6, none⟩ = some (.int .i64 (o.sl : Int))) (by kernel_rfl) (by kernel_rfl) (by kernel_rfl) (by kernel_rfl) ((calm_then (calm_block (calm_then (calm_then (calm_block (calm_then calm_body))))))) (⟨(hE.cell u4), bO38_6.1⟩) (fun ops Q X78 hb hL hR hK => ?_)
            replace hE := hE.trans hb
            replace hX19 := hX19.trans hb
            replace hX36 := hX36.trans hb
            replace hX76 := hX76.trans hb
            have hs79 := hb.size
            clear hb
            refine wd_take 0 (.slice (some ⟨b4, o4, none⟩) n4 c4) hR rfl (by kernel_rfl) rfl (by kernel_rfl) (fun w _ => by kernel_rfl) (⟨(hE.cell u4), (BoxAt.ext hX76 bO38_6).1⟩) ?_
            refine wd_take 1 (.int .i64 (((i : Nat) : Int) : Int)) hR rfl (by kernel_rfl) rfl (by kernel_rfl) (fun w _ => by kernel_rfl) (⟨(hE.cell u4), (BoxAt.ext hX76 bO38_6).1⟩) ?_
            refine wd_take 2 (.pointer (some ⟨b4, o4 + i, none⟩)) hR rfl (by kernel_rfl) rfl (by kernel_rfl) (fun w _ => ex_index (p := .slice (some ⟨b4, o4, none⟩) n4 c4) (i := .int .i64 ((i : Nat) : Int)) rfl (by kernel_rfl) (by kernel_rfl) (ix24 (k := i) (by omega))) (⟨(hE.cell u4), (BoxAt.ext hX76 bO38_6).1⟩) ?_
            refine wd_take 3 (.int .i64 (q4 i : Int)) hR rfl (by kernel_rfl) rfl (by kernel_rfl) (fun w hS => ex_load rfl (by kernel_rfl) (ld3 (hS.1))) (⟨(hE.cell u4), (BoxAt.ext hX76 bO38_6).1⟩) ?_
            refine wd_take 4 (.pointer (some ⟨O38, 6, none⟩)) hR rfl (by kernel_rfl) rfl (by kernel_rfl) (fun w _ => by kernel_rfl) (⟨(hE.cell u4), (BoxAt.ext hX76 bO38_6).1⟩) ?_
            refine wd_take 5 (.int .i64 (o.sl : Int)) hR rfl (by kernel_rfl) rfl (by kernel_rfl) (fun w hS => ex_load rfl (by kernel_rfl) (ld3 (hS.2))) (⟨(hE.cell u4), (BoxAt.ext hX76 bO38_6).1⟩) ?_
            refine wd_take 6 (.int .i64 (2 * o.sl : Int)) hR rfl (by kernel_rfl) rfl (by kernel_rfl) (fun w _ => ev_wrap (by kernel_rfl) (by omega) (by omega)) (⟨(hE.cell u4), (BoxAt.ext hX76 bO38_6).1⟩) ?_
            refine wd_take 7 (.int .i64 ((2 * o.sl) + 1 : Int)) hR rfl (by kernel_rfl) rfl (by kernel_rfl) (fun w _ => ev_wrap (by kernel_rfl) (by omega) (by omega)) (⟨(hE.cell u4), (BoxAt.ext hX76 bO38_6).1⟩) ?_
            refine wd_take 9 (.pointer (some ⟨O38, 6, none⟩)) hR rfl (by kernel_rfl) rfl (by kernel_rfl) (fun w _ => by kernel_rfl) (⟨(hE.cell u4), (BoxAt.ext hX76 bO38_6).1⟩) ?_
            refine wd_take 10 (.int .i64 (o.sl : Int)) hR rfl (by kernel_rfl) rfl (by kernel_rfl) (fun w hS => ex_load rfl (by kernel_rfl) (ld3 (hS.2))) (⟨(hE.cell u4), (BoxAt.ext hX76 bO38_6).1⟩) ?_
            refine wd_step 8 hR rfl (by kernel_rfl) (by kernel_rfl) (by kernel_rfl) (sn_call (f := 7) (args := #[.int .i64 (q4 i : Int), .int .i64 ((2 * o.sl) + 1 : Int)]) (by kernel_rfl) ((pickT_c (q4 i) ((2 * o.sl) + 1) _ iu4 (by omega) (by omega)).mono ?_))
            rintro e w' ⟨rfl, rfl⟩
            have hpd := pickF_bd (c := q4 i) (n := (2 * o.sl) + 1) (by omega)
            refine ⟨_, rfl, ⟨(hE.cell u4), (BoxAt.ext hX76 bO38_6).1⟩, ?_⟩
            refine wd_take 11 (.int .i64 ((pickF (q4 i) ((2 * o.sl) + 1)) - o.sl : Int)) hR rfl (by kernel_rfl) rfl (by kernel_rfl) (fun w _ => ev_wrap (by kernel_rfl) (by omega) (by omega)) (⟨(hE.cell u4), (BoxAt.ext hX76 bO38_6).1⟩) ?_
            refine wd_take 12 (.int .i64 ((pickF (q4 i) ((2 * o.sl) + 1)) - o.sl : Int)) hR rfl (by kernel_rfl) rfl (by kernel_rfl) (fun w _ => by kernel_rfl) (⟨(hE.cell u4), (BoxAt.ext hX76 bO38_6).1⟩) ?_
            refine wd_end hL hR hK (by kernel_rfl) ?_
            exact qw_leaf hJ [2, 4, 11, 12, 13, 14, 15, 16, 17, 18, 19, 20, 21, 22] (ws' := [(2, .slice (some ⟨b2, o2, none⟩) n2 c2), (4, .slice (some ⟨b4, o4, none⟩) n4 c4), (11, .slice (some ⟨O15, 0, none⟩) 2 2), (12, .slice aS i cS), (13, .slice aP i cP), (14, .slice aR i cR), (15, .pointer (some ⟨O26, 0, none⟩)), (16, .int .i64 (((i : Nat) : Int) : Int)), (17, .pointer (some ⟨O38, 0, none⟩)), (18, .pointer (some ⟨O45, 0, none⟩)), (19, .int .i64 ((((pk56 : Nat) : Int)) - 4 : Int)), (20, .pointer (some ⟨O70, 0, none⟩)), (21, .int .i64 0), (22, .int .i64 ((pickF (q4 i) ((2 * o.sl) + 1)) - o.sl : Int))]) (by kernel_rfl) ⟨((pickF (q4 i) ((2 * o.sl) + 1)) - o.sl), rfl, hs79, hE, hX19, hX36, hX76, by omega, by omega⟩
        ·
          clear hE hX19 hX36 hX76
          rintro L ws w80 ⟨dl, rfl, hs77, hE, hX19, hX36, hX76, hd0, hd1⟩
          refine qw_then ?_
          refine cw_seq ?_
          refine cw_plain ?_
          refine pl_take (.agg #[.int .i64 (o.p : Int), .int .i64 (o.f : Int), .int .i64 (o.lo : Int), .int .i64 (o.hi : Int), .int .i64 (o.nd : Int), .int .i64 (o.tn : Int), .int .i64 (o.sl : Int)]) rfl (by kernel_rfl) (by kernel_rfl) (by kernel_rfl) (ex_load rfl (by kernel_rfl) (ld26 ((BoxAt.ext hX76 bO38_0).1) ((BoxAt.ext hX76 bO38_1).1) ((BoxAt.ext hX76 bO38_2).1) ((BoxAt.ext hX76 bO38_3).1) ((BoxAt.ext hX76 bO38_4).1) ((BoxAt.ext hX76 bO38_5).1) ((BoxAt.ext hX76 bO38_6).1))) ?_
          refine pl_take (.agg #[.int .i64 (s.1 : Int), .int .i64 (s.2 : Int)]) rfl (by kernel_rfl) (by kernel_rfl) (by kernel_rfl) (ex_load rfl (by kernel_rfl) (ld38 ((BoxAt.ext hX76 bO45_0).1) ((BoxAt.ext hX76 bO45_1).1))) ?_
          refine pl_take (.int .i64 ((((pk56 : Nat) : Int)) - 4 : Int)) rfl (by kernel_rfl) (by kernel_rfl) (by kernel_rfl) (by kernel_rfl) ?_
          refine pl_take (.int .i64 (dl : Int)) rfl (by kernel_rfl) (by kernel_rfl) (by kernel_rfl) (by kernel_rfl) ?_
          refine pl_step rfl (by kernel_rfl) (by kernel_rfl) (by kernel_rfl) (sn_call (f := 9) (args := #[.agg #[.int .i64 (o.p : Int), .int .i64 (o.f : Int), .int .i64 (o.lo : Int), .int .i64 (o.hi : Int), .int .i64 (o.nd : Int), .int .i64 (o.tn : Int), .int .i64 (o.sl : Int)], .agg #[.int .i64 (s.1 : Int), .int .i64 (s.2 : Int)], .int .i64 ((((pk56 : Nat) : Int)) - 4 : Int), .int .i64 (dl : Int)]) (by kernel_rfl) ((Shown_y (o := o) (s := s) (lk := (((pk56 : Nat) : Int)) - 4) (d := dl) _ (Bool.and_eq_true_iff.2 ⟨Swath.shB_t.2 ⟨hok, ⟨by first | omega | (simp only []; omega), by first | omega | (simp only []; omega), by first | omega | (simp only []; omega), by first | omega | (simp only []; omega)⟩, by omega, by omega⟩, Globe.inB_t.2 ⟨by omega, by omega⟩⟩)).mono ?_))
          rintro e w84 ⟨B81, rfl, hn82, hr83, hb⟩
          replace hE := hE.trans hb
          replace hX19 := hX19.trans hb
          replace hX36 := hX36.trans hb
          replace hX76 := hX76.trans hb
          have hs85 := hb.size
          clear hb
          have lt86 := hr83.lt
          refine ⟨_, rfl, ?_⟩
          refine pl_take (.tuple #[.agg #[.slice (some ⟨B81, 0, none⟩) 24 24], .int .i64 0]) rfl (by kernel_rfl) (by kernel_rfl) (by kernel_rfl) (by kernel_rfl) ?_
          refine pl_take (.agg #[.slice (some ⟨B81, 0, none⟩) 24 24]) rfl (by kernel_rfl) (by kernel_rfl) (by kernel_rfl) (by kernel_rfl) ?_
          refine pl_take (.int .i64 0) rfl (by kernel_rfl) (by kernel_rfl) (by kernel_rfl) (by kernel_rfl) ?_
          refine pl_step rfl (by kernel_rfl) (by kernel_rfl) (by kernel_rfl) (sn_new (us := #[.slice none 0 0]) (t := 33) (by kernel_rfl) ?_)
          intro O87 X88 hO hOs hb hbx
          have hzO87 := hO; have hyO87 := hOs; clear hO hOs
          have bO87_0 : BoxAt X88 O87 0 (.slice none 0 0) := hbx 0 _ rfl
          clear hbx
          replace hE := hE.trans hb
          replace hX19 := hX19.trans hb
          replace hX36 := hX36.trans hb
          replace hX76 := hX76.trans hb
          replace hr83 := hr83.ext hb
          have hs89 := hb.size
          clear hb
          have lt90 := bO87_0.lt
          refine pl_put rfl (by kernel_rfl) (by kernel_rfl) (sn_set (O := O87) (j := 0) (v := .slice (some ⟨B81, 0, none⟩) 24 24) (ex_store (p := .pointer (some ⟨O87, 0, none⟩)) (v := .agg #[.slice (some ⟨B81, 0, none⟩) 24 24]) rfl (by kernel_rfl) (by kernel_rfl) (st33 bO87_0.1 bO87_0.2)) bO87_0 ?_)
          intro X91 ho hv0 hk
          replace hE := ho.ext hE (Nat.le_trans (Nat.le_trans hs3 (Nat.le_trans hs7 (Nat.le_trans hs10 (Nat.le_trans hs12 (Nat.le_trans hs14 (Nat.le_trans hs17 (Nat.le_trans hs24 (Nat.le_trans hs28 (Nat.le_trans hs31 (Nat.le_trans hs33 (Nat.le_trans hs40 (Nat.le_trans hs43 (Nat.le_trans hs47 (Nat.le_trans hs50 (Nat.le_trans hs52 (Nat.le_trans hs55 (Nat.le_trans hs67 (Nat.le_trans hs72 (Nat.le_trans hs75 (Nat.le_trans hs77 hs85)))))))))))))))))))) (Nat.le_of_eq hzO87))
          replace hX19 := ho.ext hX19 (Nat.le_trans (Nat.le_trans hs24 (Nat.le_trans hs28 (Nat.le_trans hs31 (Nat.le_trans hs33 (Nat.le_trans hs40 (Nat.le_trans hs43 (Nat.le_trans hs47 (Nat.le_trans hs50 (Nat.le_trans hs52 (Nat.le_trans hs55 (Nat.le_trans hs67 (Nat.le_trans hs72 (Nat.le_trans hs75 (Nat.le_trans hs77 hs85)))))))))))))) (Nat.le_of_eq hzO87))
          replace hX36 := ho.ext hX36 (Nat.le_trans (Nat.le_trans hs40 (Nat.le_trans hs43 (Nat.le_trans hs47 (Nat.le_trans hs50 (Nat.le_trans hs52 (Nat.le_trans hs55 (Nat.le_trans hs67 (Nat.le_trans hs72 (Nat.le_trans hs75 (Nat.le_trans hs77 hs85)))))))))) (Nat.le_of_eq hzO87))
          replace hX76 := ho.ext hX76 (Nat.le_trans (Nat.le_trans hs77 hs85) (Nat.le_of_eq hzO87))
          replace hr83 := ho.rows (Nat.ne_of_gt (Nat.lt_of_lt_of_le lt86 (Nat.le_of_eq hzO87))) hr83
          have hs92 : X88.heap.size ≤ X91.heap.size := Nat.le_of_eq ho.size.symm
          clear ho hk bO87_0
          have bO87_0 := hv0; clear hv0
          refine pl_take (.int .i64 0) rfl (by kernel_rfl) (by kernel_rfl) (by kernel_rfl) (by kernel_rfl) ?_
          refine pl_nil ?_
          refine qw_then ?_
          refine cw_clean [2, 4, 11, 12, 13, 14, 15, 16, 18, 20, 21, 23, 24] (ws' := [(2, .slice (some ⟨b2, o2, none⟩) n2 c2), (4, .slice a4 n4 c4), (11, .slice (some ⟨O15, 0, none⟩) 2 2), (12, .slice aS i cS), (13, .slice aP i cP), (14, .slice aR i cR), (15, .pointer (some ⟨O26, 0, none⟩)), (16, .int .i64 (((i : Nat) : Int) : Int)), (18, .pointer (some ⟨O45, 0, none⟩)), (20, .pointer (some ⟨O70, 0, none⟩)), (21, .int .i64 0), (23, .pointer (some ⟨O87, 0, none⟩)), (24, .int .i64 0)]) (by kernel_rfl) (fun L => ?_)
          refine cw_seq ?_
          refine cw_seq ?_
          refine cw_plain ?_
          refine pl_take (.int .i64 0) rfl (by kernel_rfl) (by kernel_rfl) (by kernel_rfl) (by kernel_rfl) ?_
          refine pl_take (.bool false) rfl (by kernel_rfl) (by kernel_rfl) (by kernel_rfl) (by kernel_rfl) ?_
          refine pl_take (.bool false) rfl (by kernel_rfl) (by kernel_rfl) (by kernel_rfl) (by kernel_rfl) ?_
          refine pl_take (.int .i64 0) rfl (by kernel_rfl) (by kernel_rfl) (by kernel_rfl) (by kernel_rfl) ?_
          refine pl_take (.bool false) rfl (by kernel_rfl) (by kernel_rfl) (by kernel_rfl) (by kernel_rfl) ?_
          refine pl_take (.bool false) rfl (by kernel_rfl) (by kernel_rfl) (by kernel_rfl) (by kernel_rfl) ?_
          refine pl_take (.bool false) rfl (by kernel_rfl) (by kernel_rfl) (by kernel_rfl) (by kernel_rfl) ?_
          refine pl_take (.agg #[.slice (some ⟨B81, 0, none⟩) 24 24]) rfl (by kernel_rfl) (by kernel_rfl) (by kernel_rfl) (ex_load rfl (by kernel_rfl) (ld33 (bO87_0.1))) ?_
          refine pl_take (.pointer (some ⟨O70, 0, none⟩)) rfl (by kernel_rfl) (by kernel_rfl) (by kernel_rfl) (by kernel_rfl) ?_
          refine pl_take (.agg #[.slice (some ⟨B57, 0, none⟩) 24 k59]) rfl (by kernel_rfl) (by kernel_rfl) (by kernel_rfl) (ex_load rfl (by kernel_rfl) (ld33 ((BoxAt.ext hX76 bO70_0).1))) ?_
          refine pl_step rfl (by kernel_rfl) (by kernel_rfl) (by kernel_rfl) (sn_call (f := 10) (args := #[.agg #[.slice (some ⟨B81, 0, none⟩) 24 24], .agg #[.slice (some ⟨B57, 0, none⟩) 24 k59]]) (by kernel_rfl) ((Contains_t _ _ _ (RowsAt.va hr83 (Swath.show_valid hok _ _ _)) (RowsAt.va (hr64.ext hX76) (Swath.sure_valid hok _ _)) (Top.real_sure hok hd0 hd1)).mono ?_))
          rintro e w93 ⟨rfl, hb⟩
          replace hE := hE.trans hb
          replace hX19 := hX19.trans hb
          replace hX36 := hX36.trans hb
          replace hX76 := hX76.trans hb
          replace hr83 := hr83.ext hb
          replace bO87_0 := BoxAt.ext hb bO87_0
          have hs94 := hb.size
          clear hb
          refine ⟨_, rfl, ?_⟩
          refine pl_take (.bool false) rfl (by kernel_rfl) (by kernel_rfl) (by kernel_rfl) (by kernel_rfl) ?_
          refine pl_take (.bool false) rfl (by kernel_rfl) (by kernel_rfl) (by kernel_rfl) (by kernel_rfl) ?_
          refine pl_take (.bool false) rfl (by kernel_rfl) (by kernel_rfl) (by kernel_rfl) (by kernel_rfl) ?_
          refine pl_take (.pointer (some ⟨O70, 1, none⟩)) rfl (by kernel_rfl) (by kernel_rfl) (by kernel_rfl) (by kernel_rfl) ?_
          refine pl_take (.agg #[.slice (some ⟨g58, 0, none⟩) 24 k60]) rfl (by kernel_rfl) (by kernel_rfl) (by kernel_rfl) (ex_load rfl (by kernel_rfl) (ld33 ((BoxAt.ext hX76 bO70_1).1))) ?_
          refine pl_take (.agg #[.slice (some ⟨B81, 0, none⟩) 24 24]) rfl (by kernel_rfl) (by kernel_rfl) (by kernel_rfl) (ex_load rfl (by kernel_rfl) (ld33 (bO87_0.1))) ?_
          refine pl_step rfl (by kernel_rfl) (by kernel_rfl) (by kernel_rfl) (sn_call (f := 10) (args := #[.agg #[.slice (some ⟨g58, 0, none⟩) 24 k60], .agg #[.slice (some ⟨B81, 0, none⟩) 24 24]]) (by kernel_rfl) ((Contains_t _ _ _ (RowsAt.va (hr65.ext hX76) (Swath.can_valid hok _ _)) (RowsAt.va hr83 (Swath.show_valid hok _ _ _)) (Top.real_can hok hd0 hd1)).mono ?_))
          rintro e w95 ⟨rfl, hb⟩
          replace hE := hE.trans hb
          replace hX19 := hX19.trans hb
          replace hX36 := hX36.trans hb
          replace hX76 := hX76.trans hb
          replace hr83 := hr83.ext hb
          replace bO87_0 := BoxAt.ext hb bO87_0
          have hs96 := hb.size
          clear hb
          refine ⟨_, rfl, ?_⟩
          refine pl_take (.bool false) rfl (by kernel_rfl) (by kernel_rfl) (by kernel_rfl) (by kernel_rfl) ?_
          refine pl_take (.bool false) rfl (by kernel_rfl) (by kernel_rfl) (by kernel_rfl) (by kernel_rfl) ?_
          refine pl_nil ?_
          refine qw_then ?_
          refine cw_clean [2, 4, 11, 12, 13, 14, 15, 16, 18, 20, 23, 147] (ws' := [(2, .slice (some ⟨b2, o2, none⟩) n2 c2), (4, .slice a4 n4 c4), (11, .slice (some ⟨O15, 0, none⟩) 2 2), (12, .slice aS i cS), (13, .slice aP i cP), (14, .slice aR i cR), (15, .pointer (some ⟨O26, 0, none⟩)), (16, .int .i64 (((i : Nat) : Int) : Int)), (18, .pointer (some ⟨O45, 0, none⟩)), (20, .pointer (some ⟨O70, 0, none⟩)), (23, .pointer (some ⟨O87, 0, none⟩)), (147, .bool false)]) (by kernel_rfl) (fun L => ?_)
          refine cw_f (by kernel_rfl) ?_
          refine cw_skip ?_
          refine qw_then ?_
          refine cw_seq ?_
          refine cw_seq ?_
          refine cw_plain ?_
          refine pl_take (.slice (some ⟨b2, o2, none⟩) n2 c2) rfl (by kernel_rfl) (by kernel_rfl) (by kernel_rfl) (by kernel_rfl) ?_
          refine pl_take (.int .i64 (((i : Nat) : Int) : Int)) rfl (by kernel_rfl) (by kernel_rfl) (by kernel_rfl) (by kernel_rfl) ?_
          refine pl_take (.pointer (some ⟨b2, o2 + i * 4, none⟩)) rfl (by kernel_rfl) (by kernel_rfl) (by kernel_rfl) (ex_index (p := .slice (some ⟨b2, o2, none⟩) n2 c2) (i := .int .i64 ((i : Nat) : Int)) rfl (by kernel_rfl) (by kernel_rfl) (ix23 (k := i) (by omega))) ?_
          refine pl_take (.pointer (some ⟨b2, o2 + i * 4 + 3, none⟩)) rfl (by kernel_rfl) (by kernel_rfl) (by kernel_rfl) (by kernel_rfl) ?_
          refine pl_take (.int .i64 (q2 i 3 : Int)) rfl (by kernel_rfl) (by kernel_rfl) (by kernel_rfl) (ex_load rfl (by kernel_rfl) (ld3 ((hE.cell u3)))) ?_
          refine pl_take (.int .i64 ((q2 i 3).tdiv 9 : Int)) rfl (by kernel_rfl) (by kernel_rfl) (by kernel_rfl) (ex_bin (a := q2 i 3) (b := 9) rfl (by kernel_rfl) (by kernel_rfl) (bin_tdiv (by omega) (by have := iu3; unfold IsI at this; omega) (by have := iu3; unfold IsI at this; omega))) ?_
          refine pl_step rfl (by kernel_rfl) (by kernel_rfl) (by kernel_rfl) (sn_call (f := 7) (args := #[.int .i64 ((q2 i 3).tdiv 9 : Int), .int .i64 2]) (by kernel_rfl) ((pickT_n ((q2 i 3).tdiv 9) 2 _ (isI_tdiv iu3 (by omega)) (by omega) (by omega)).mono ?_))
          rintro e w' ⟨pk97, rfl, pk97l, pk97p, rfl⟩
          obtain ⟨qu, hqu⟩ : ∃ q, (((pk97 : Nat) : Int) == (0 : Int)) = q := ⟨_, rfl⟩
          refine ⟨_, rfl, ?_⟩
          refine pl_take (.bool qu) rfl (by kernel_rfl) (by kernel_rfl) (by kernel_rfl) (ev_bool (show _ = Result.ok (Next.value (Value.bool (((pk97 : Nat) : Int) == (0 : Int)))) _ from by kernel_rfl) hqu) ?_
          refine pl_nil ?_
          refine qw_then ?_
          refine cw_clean [2, 4, 11, 12, 13, 14, 15, 16, 18, 20, 23, 155] (ws' := [(2, .slice (some ⟨b2, o2, none⟩) n2 c2), (4, .slice a4 n4 c4), (11, .slice (some ⟨O15, 0, none⟩) 2 2), (12, .slice aS i cS), (13, .slice aP i cP), (14, .slice aR i cR), (15, .pointer (some ⟨O26, 0, none⟩)), (16, .int .i64 (((i : Nat) : Int) : Int)), (18, .pointer (some ⟨O45, 0, none⟩)), (20, .pointer (some ⟨O70, 0, none⟩)), (23, .pointer (some ⟨O87, 0, none⟩)), (155, .bool qu)]) (by kernel_rfl) (fun L => ?_)
          have zAt98 := (BoxAt.ext hX36 zA)
          have ownSt99 := (ownS.ext hX36)
          have ownPt100 := (ownP.ext hX36)
          have ownRt101 := (ownR.ext hX36)
          have hRdt102 := (hRd.ext hX36)
          have hAlt103 := (hAl.ext hX36)
          have zt104 := (hX36.cell z0)
          have zt105 := (hX36.cell z1)
          have zt106 := (hX36.cell z2)
          have zt107 := (hX36.cell z3)
          have zt108 := (hX36.cell z4)
          have zt109 := (hX36.cell z5)
          have zt110 := (hX36.cell z6)
          have bO45_t111 := (BoxAt.ext hX76 bO45_0)
          have bO45_t112 := (BoxAt.ext hX76 bO45_1)
          have hrt113 := (hr64.ext hX76)
          have hrt114 := (hr65.ext hX76)
          have bO70_t115 := (BoxAt.ext hX76 bO70_0)
          have bO70_t116 := (BoxAt.ext hX76 bO70_1)
          refine cw_join (fun ws' wr => ∃ T2 : Nat → Prop, ∃ A2 : List Int, ∃ B8 : Nat, ∃ k8 : Nat, ws' = [(2, .slice (some ⟨b2, o2, none⟩) n2 c2), (4, .slice a4 n4 c4), (11, .slice (some ⟨O15, 0, none⟩) 2 2), (12, .slice aS i cS), (13, .slice aP i cP), (14, .slice aR i cR), (15, .pointer (some ⟨O26, 0, none⟩)), (16, .int .i64 (((i : Nat) : Int) : Int)), (18, .pointer (some ⟨O45, 0, none⟩)), (20, .pointer (some ⟨O70, 0, none⟩)), (23, .pointer (some ⟨O87, 0, none⟩))] ∧ w95.heap.size ≤ wr.heap.size ∧ Ext w wr ∧ Ext X16 wr ∧ OwnL ((rxR encS)) X30.heap.size 40 2 (.slice aS i cS) wr xs ∧ OwnL ((rxR encP)) X30.heap.size 49 4 (.slice aP i cP) wr xs ∧ OwnL ((rxR encA)) X30.heap.size 33 1 (.slice aR i cR) wr xs ∧ Rd T wr xs ys ∧ wr.cell? ⟨O15, pk37 * 7, none⟩ = some (.int .i64 (o.p : Int)) ∧ wr.cell? ⟨O15, pk37 * 7 + 1, none⟩ = some (.int .i64 (o.f : Int)) ∧ wr.cell? ⟨O15, pk37 * 7 + 2, none⟩ = some (.int .i64 (o.lo : Int)) ∧ wr.cell? ⟨O15, pk37 * 7 + 3, none⟩ = some (.int .i64 (o.hi : Int)) ∧ wr.cell? ⟨O15, pk37 * 7 + 4, none⟩ = some (.int .i64 (o.nd : Int)) ∧ wr.cell? ⟨O15, pk37 * 7 + 5, none⟩ = some (.int .i64 (o.tn : Int)) ∧ wr.cell? ⟨O15, pk37 * 7 + 6, none⟩ = some (.int .i64 (o.sl : Int)) ∧ BoxAt wr O45 0 (.int .i64 (s.1 : Int)) ∧ BoxAt wr O45 1 (.int .i64 (s.2 : Int)) ∧ RowsAt wr B57 (Swath.sureL o s ((((pk56 : Nat) : Int)) - 4)) ∧ RowsAt wr g58 (Swath.canL o s ((((pk56 : Nat) : Int)) - 4)) ∧ BoxAt wr O70 0 (.slice (some ⟨B57, 0, none⟩) 24 k59) ∧ BoxAt wr O70 1 (.slice (some ⟨g58, 0, none⟩) 24 k60) ∧ RowsAt wr B81 (Swath.showL o ((((pk56 : Nat) : Int)) - 4) (s.1 - dl) (s.2 - s.1).toNat) ∧ BoxAt wr O87 0 (.slice (some ⟨B81, 0, none⟩) 24 24) ∧ BoxAt wr O26 0 (.slice (some ⟨B8, 0, none⟩) 24 k8) ∧ AllR T2 wr B8 A2 ∧ Globe.validL A2 = true ∧ (∀ k, T k → T2 k) ∧ (∀ k, T2 k → T k ∨ (w34.heap.size ≤ k ∧ k < wr.heap.size))) (fun hJ => ?_) ?_
          ·
            cases qu
            ·
              refine cw_f (by kernel_rfl) ?_
              refine cw_skip ?_
              exact qw_leaf hJ [2, 4, 11, 12, 13, 14, 15, 16, 18, 20, 23] (ws' := [(2, .slice (some ⟨b2, o2, none⟩) n2 c2), (4, .slice a4 n4 c4), (11, .slice (some ⟨O15, 0, none⟩) 2 2), (12, .slice aS i cS), (13, .slice aP i cP), (14, .slice aR i cR), (15, .pointer (some ⟨O26, 0, none⟩)), (16, .int .i64 (((i : Nat) : Int) : Int)), (18, .pointer (some ⟨O45, 0, none⟩)), (20, .pointer (some ⟨O70, 0, none⟩)), (23, .pointer (some ⟨O87, 0, none⟩))]) (by kernel_rfl) ⟨T, A, B9, k9, rfl, (Nat.le_refl _), hE, hX19, ownSt99, ownPt100, ownRt101, hRdt102, zt104, zt105, zt106, zt107, zt108, zt109, zt110, bO45_t111, bO45_t112, hrt113, hrt114, bO70_t115, bO70_t116, hr83, bO87_0, zAt98, hAlt103, hvA, (fun k h => h), (fun k h => .inl h)⟩
            ·
              refine cw_t (by kernel_rfl) ?_
              refine cw_seq ?_
              refine cw_plain ?_
              refine pl_take (.agg #[.slice (some ⟨B9, 0, none⟩) 24 k9]) rfl (by kernel_rfl) (by kernel_rfl) (by kernel_rfl) (ex_load rfl (by kernel_rfl) (ld33 (zAt98.1))) ?_
              refine pl_take (.pointer (some ⟨O70, 0, none⟩)) rfl (by kernel_rfl) (by kernel_rfl) (by kernel_rfl) (by kernel_rfl) ?_
              refine pl_take (.agg #[.slice (some ⟨B57, 0, none⟩) 24 k59]) rfl (by kernel_rfl) (by kernel_rfl) (by kernel_rfl) (ex_load rfl (by kernel_rfl) (ld33 (bO70_t115.1))) ?_
              refine pl_step rfl (by kernel_rfl) (by kernel_rfl) (by kernel_rfl) (sn_call (f := 11) (args := #[.agg #[.slice (some ⟨B9, 0, none⟩) 24 k9], .agg #[.slice (some ⟨B57, 0, none⟩) 24 k59]]) (by kernel_rfl) ((Union_v _ _ _ (hAlt103).va (Ext.refl _) (RowsAt.va hrt113 (Swath.sure_valid hok _ _)) (Ext.refl _)).mono ?_))
              rintro e w123 ⟨B118, k119, rfl, hn120, hr121, hv122, hb⟩
              replace hE := hE.trans hb
              replace hX19 := hX19.trans hb
              replace zAt98 := BoxAt.ext hb zAt98
              replace ownSt99 := ownSt99.ext hb
              replace ownPt100 := ownPt100.ext hb
              replace ownRt101 := ownRt101.ext hb
              replace hRdt102 := Rd.ext hRdt102 hb
              replace hAlt103 := AllR.ext hAlt103 hb
              replace zt104 := hb.cell zt104
              replace zt105 := hb.cell zt105
              replace zt106 := hb.cell zt106
              replace zt107 := hb.cell zt107
              replace zt108 := hb.cell zt108
              replace zt109 := hb.cell zt109
              replace zt110 := hb.cell zt110
              replace bO45_t111 := BoxAt.ext hb bO45_t111
              replace bO45_t112 := BoxAt.ext hb bO45_t112
              replace hrt113 := hrt113.ext hb
              replace hrt114 := hrt114.ext hb
              replace bO70_t115 := BoxAt.ext hb bO70_t115
              replace bO70_t116 := BoxAt.ext hb bO70_t116
              replace hr83 := hr83.ext hb
              replace bO87_0 := BoxAt.ext hb bO87_0
              have hs124 := hb.size
              clear hb
              have lt125 := hr121.lt
              clear hv122
              refine ⟨_, rfl, ?_⟩
              refine pl_take (.tuple #[.agg #[.slice (some ⟨B118, 0, none⟩) 24 k119], .int .i64 0]) rfl (by kernel_rfl) (by kernel_rfl) (by kernel_rfl) (by kernel_rfl) ?_
              refine pl_take (.agg #[.slice (some ⟨B118, 0, none⟩) 24 k119]) rfl (by kernel_rfl) (by kernel_rfl) (by kernel_rfl) (by kernel_rfl) ?_
              refine pl_take (.int .i64 0) rfl (by kernel_rfl) (by kernel_rfl) (by kernel_rfl) (by kernel_rfl) ?_
              refine pl_step rfl (by kernel_rfl) (by kernel_rfl) (by kernel_rfl) (sn_new (us := #[.slice none 0 0]) (t := 33) (by kernel_rfl) ?_)
              intro O126 X127 hO hOs hb hbx
              have hzO126 := hO; have hyO126 := hOs; clear hO hOs
              have bO126_0 : BoxAt X127 O126 0 (.slice none 0 0) := hbx 0 _ rfl
              clear hbx
              replace hE := hE.trans hb
              replace hX19 := hX19.trans hb
              replace zAt98 := BoxAt.ext hb zAt98
              replace ownSt99 := ownSt99.ext hb
              replace ownPt100 := ownPt100.ext hb
              replace ownRt101 := ownRt101.ext hb
              replace hRdt102 := Rd.ext hRdt102 hb
              replace hAlt103 := AllR.ext hAlt103 hb
              replace zt104 := hb.cell zt104
              replace zt105 := hb.cell zt105
              replace zt106 := hb.cell zt106
              replace zt107 := hb.cell zt107
              replace zt108 := hb.cell zt108
              replace zt109 := hb.cell zt109
              replace zt110 := hb.cell zt110
              replace bO45_t111 := BoxAt.ext hb bO45_t111
              replace bO45_t112 := BoxAt.ext hb bO45_t112
              replace hrt113 := hrt113.ext hb
              replace hrt114 := hrt114.ext hb
              replace bO70_t115 := BoxAt.ext hb bO70_t115
              replace bO70_t116 := BoxAt.ext hb bO70_t116
              replace hr83 := hr83.ext hb
              replace bO87_0 := BoxAt.ext hb bO87_0
              replace hr121 := hr121.ext hb
              have hs128 := hb.size
              clear hb
              have lt129 := bO126_0.lt
              refine pl_put rfl (by kernel_rfl) (by kernel_rfl) (sn_set (O := O126) (j := 0) (v := .slice (some ⟨B118, 0, none⟩) 24 k119) (ex_store (p := .pointer (some ⟨O126, 0, none⟩)) (v := .agg #[.slice (some ⟨B118, 0, none⟩) 24 k119]) rfl (by kernel_rfl) (by kernel_rfl) (st33 bO126_0.1 bO126_0.2)) bO126_0 ?_)
              intro X130 ho hv0 hk
              replace hE := ho.ext hE (Nat.le_trans (Nat.le_trans hs3 (Nat.le_trans hs7 (Nat.le_trans hs10 (Nat.le_trans hs12 (Nat.le_trans hs14 (Nat.le_trans hs17 (Nat.le_trans hs24 (Nat.le_trans hs28 (Nat.le_trans hs31 (Nat.le_trans hs33 (Nat.le_trans hs40 (Nat.le_trans hs43 (Nat.le_trans hs47 (Nat.le_trans hs50 (Nat.le_trans hs52 (Nat.le_trans hs55 (Nat.le_trans hs67 (Nat.le_trans hs72 (Nat.le_trans hs75 (Nat.le_trans hs77 (Nat.le_trans hs85 (Nat.le_trans hs89 (Nat.le_trans hs92 (Nat.le_trans hs94 (Nat.le_trans hs96 hs124))))))))))))))))))))))))) (Nat.le_of_eq hzO126))
              replace hX19 := ho.ext hX19 (Nat.le_trans (Nat.le_trans hs24 (Nat.le_trans hs28 (Nat.le_trans hs31 (Nat.le_trans hs33 (Nat.le_trans hs40 (Nat.le_trans hs43 (Nat.le_trans hs47 (Nat.le_trans hs50 (Nat.le_trans hs52 (Nat.le_trans hs55 (Nat.le_trans hs67 (Nat.le_trans hs72 (Nat.le_trans hs75 (Nat.le_trans hs77 (Nat.le_trans hs85 (Nat.le_trans hs89 (Nat.le_trans hs92 (Nat.le_trans hs94 (Nat.le_trans hs96 hs124))))))))))))))))))) (Nat.le_of_eq hzO126))
              replace zAt98 := ho.box (Nat.ne_of_gt (Nat.lt_of_lt_of_le lt29 (Nat.le_trans (Nat.le_trans hs31 (Nat.le_trans hs33 (Nat.le_trans hs40 (Nat.le_trans hs43 (Nat.le_trans hs47 (Nat.le_trans hs50 (Nat.le_trans hs52 (Nat.le_trans hs55 (Nat.le_trans hs67 (Nat.le_trans hs72 (Nat.le_trans hs75 (Nat.le_trans hs77 (Nat.le_trans hs85 (Nat.le_trans hs89 (Nat.le_trans hs92 (Nat.le_trans hs94 (Nat.le_trans hs96 hs124))))))))))))))))) (Nat.le_of_eq hzO126)))) zAt98
              replace ownSt99 := ownSt99.turn ho (own_not2 hbS (Nat.le_trans (Nat.le_trans hs40 (Nat.le_trans hs43 (Nat.le_trans hs47 (Nat.le_trans hs50 (Nat.le_trans hs52 (Nat.le_trans hs55 (Nat.le_trans hs67 (Nat.le_trans hs72 (Nat.le_trans hs75 (Nat.le_trans hs77 (Nat.le_trans hs85 (Nat.le_trans hs89 (Nat.le_trans hs92 (Nat.le_trans hs94 (Nat.le_trans hs96 hs124))))))))))))))) (Nat.le_of_eq hzO126))) (fun _ _ _ h => by rw [h.2]; exact fun b hb => by cases hb)
              replace ownPt100 := ownPt100.turn ho (own_not2 hbP (Nat.le_trans (Nat.le_trans hs40 (Nat.le_trans hs43 (Nat.le_trans hs47 (Nat.le_trans hs50 (Nat.le_trans hs52 (Nat.le_trans hs55 (Nat.le_trans hs67 (Nat.le_trans hs72 (Nat.le_trans hs75 (Nat.le_trans hs77 (Nat.le_trans hs85 (Nat.le_trans hs89 (Nat.le_trans hs92 (Nat.le_trans hs94 (Nat.le_trans hs96 hs124))))))))))))))) (Nat.le_of_eq hzO126))) (fun _ _ _ h => by rw [h.2]; exact fun b hb => by cases hb)
              replace ownRt101 := ownRt101.turn ho (own_not2 hbR (Nat.le_trans (Nat.le_trans hs40 (Nat.le_trans hs43 (Nat.le_trans hs47 (Nat.le_trans hs50 (Nat.le_trans hs52 (Nat.le_trans hs55 (Nat.le_trans hs67 (Nat.le_trans hs72 (Nat.le_trans hs75 (Nat.le_trans hs77 (Nat.le_trans hs85 (Nat.le_trans hs89 (Nat.le_trans hs92 (Nat.le_trans hs94 (Nat.le_trans hs96 hs124))))))))))))))) (Nat.le_of_eq hzO126))) (fun _ _ _ h => by rw [h.2]; exact fun b hb => by cases hb)
              replace hRdt102 := Rd.turn hRdt102 ho (fun h => absurd (hTl _ h) (Nat.not_lt_of_le (Nat.le_trans (Nat.le_trans hs40 (Nat.le_trans hs43 (Nat.le_trans hs47 (Nat.le_trans hs50 (Nat.le_trans hs52 (Nat.le_trans hs55 (Nat.le_trans hs67 (Nat.le_trans hs72 (Nat.le_trans hs75 (Nat.le_trans hs77 (Nat.le_trans hs85 (Nat.le_trans hs89 (Nat.le_trans hs92 (Nat.le_trans hs94 (Nat.le_trans hs96 hs124))))))))))))))) (Nat.le_of_eq hzO126))))
              replace hAlt103 := AllR.turn hAlt103 ho (fun h => absurd (hTl _ h) (Nat.not_lt_of_le (Nat.le_trans (Nat.le_trans hs40 (Nat.le_trans hs43 (Nat.le_trans hs47 (Nat.le_trans hs50 (Nat.le_trans hs52 (Nat.le_trans hs55 (Nat.le_trans hs67 (Nat.le_trans hs72 (Nat.le_trans hs75 (Nat.le_trans hs77 (Nat.le_trans hs85 (Nat.le_trans hs89 (Nat.le_trans hs92 (Nat.le_trans hs94 (Nat.le_trans hs96 hs124))))))))))))))) (Nat.le_of_eq hzO126))))
              replace zt104 := ho.cell (Nat.ne_of_gt (Nat.lt_of_lt_of_le lt18 (Nat.le_trans (Nat.le_trans hs24 (Nat.le_trans hs28 (Nat.le_trans hs31 (Nat.le_trans hs33 (Nat.le_trans hs40 (Nat.le_trans hs43 (Nat.le_trans hs47 (Nat.le_trans hs50 (Nat.le_trans hs52 (Nat.le_trans hs55 (Nat.le_trans hs67 (Nat.le_trans hs72 (Nat.le_trans hs75 (Nat.le_trans hs77 (Nat.le_trans hs85 (Nat.le_trans hs89 (Nat.le_trans hs92 (Nat.le_trans hs94 (Nat.le_trans hs96 hs124))))))))))))))))))) (Nat.le_of_eq hzO126)))) zt104
              replace zt105 := ho.cell (Nat.ne_of_gt (Nat.lt_of_lt_of_le lt18 (Nat.le_trans (Nat.le_trans hs24 (Nat.le_trans hs28 (Nat.le_trans hs31 (Nat.le_trans hs33 (Nat.le_trans hs40 (Nat.le_trans hs43 (Nat.le_trans hs47 (Nat.le_trans hs50 (Nat.le_trans hs52 (Nat.le_trans hs55 (Nat.le_trans hs67 (Nat.le_trans hs72 (Nat.le_trans hs75 (Nat.le_trans hs77 (Nat.le_trans hs85 (Nat.le_trans hs89 (Nat.le_trans hs92 (Nat.le_trans hs94 (Nat.le_trans hs96 hs124))))))))))))))))))) (Nat.le_of_eq hzO126)))) zt105
              replace zt106 := ho.cell (Nat.ne_of_gt (Nat.lt_of_lt_of_le lt18 (Nat.le_trans (Nat.le_trans hs24 (Nat.le_trans hs28 (Nat.le_trans hs31 (Nat.le_trans hs33 (Nat.le_trans hs40 (Nat.le_trans hs43 (Nat.le_trans hs47 (Nat.le_trans hs50 (Nat.le_trans hs52 (Nat.le_trans hs55 (Nat.le_trans hs67 (Nat.le_trans hs72 (Nat.le_trans hs75 (Nat.le_trans hs77 (Nat.le_trans hs85 (Nat.le_trans hs89 (Nat.le_trans hs92 (Nat.le_trans hs94 (Nat.le_trans hs96 hs124))))))))))))))))))) (Nat.le_of_eq hzO126)))) zt106
              replace zt107 := ho.cell (Nat.ne_of_gt (Nat.lt_of_lt_of_le lt18 (Nat.le_trans (Nat.le_trans hs24 (Nat.le_trans hs28 (Nat.le_trans hs31 (Nat.le_trans hs33 (Nat.le_trans hs40 (Nat.le_trans hs43 (Nat.le_trans hs47 (Nat.le_trans hs50 (Nat.le_trans hs52 (Nat.le_trans hs55 (Nat.le_trans hs67 (Nat.le_trans hs72 (Nat.le_trans hs75 (Nat.le_trans hs77 (Nat.le_trans hs85 (Nat.le_trans hs89 (Nat.le_trans hs92 (Nat.le_trans hs94 (Nat.le_trans hs96 hs124))))))))))))))))))) (Nat.le_of_eq hzO126)))) zt107
              replace zt108 := ho.cell (Nat.ne_of_gt (Nat.lt_of_lt_of_le lt18 (Nat.le_trans (Nat.le_trans hs24 (Nat.le_trans hs28 (Nat.le_trans hs31 (Nat.le_trans hs33 (Nat.le_trans hs40 (Nat.le_trans hs43 (Nat.le_trans hs47 (Nat.le_trans hs50 (Nat.le_trans hs52 (Nat.le_trans hs55 (Nat.le_trans hs67 (Nat.le_trans hs72 (Nat.le_trans hs75 (Nat.le_trans hs77 (Nat.le_trans hs85 (Nat.le_trans hs89 (Nat.le_trans hs92 (Nat.le_trans hs94 (Nat.le_trans hs96 hs124))))))))))))))))))) (Nat.le_of_eq hzO126)))) zt108
              replace zt109 := ho.cell (Nat.ne_of_gt (Nat.lt_of_lt_of_le lt18 (Nat.le_trans (Nat.le_trans hs24 (Nat.le_trans hs28 (Nat.le_trans hs31 (Nat.le_trans hs33 (Nat.le_trans hs40 (Nat.le_trans hs43 (Nat.le_trans hs47 (Nat.le_trans hs50 (Nat.le_trans hs52 (Nat.le_trans hs55 (Nat.le_trans hs67 (Nat.le_trans hs72 (Nat.le_trans hs75 (Nat.le_trans hs77 (Nat.le_trans hs85 (Nat.le_trans hs89 (Nat.le_trans hs92 (Nat.le_trans hs94 (Nat.le_trans hs96 hs124))))))))))))))))))) (Nat.le_of_eq hzO126)))) zt109
              replace zt110 := ho.cell (Nat.ne_of_gt (Nat.lt_of_lt_of_le lt18 (Nat.le_trans (Nat.le_trans hs24 (Nat.le_trans hs28 (Nat.le_trans hs31 (Nat.le_trans hs33 (Nat.le_trans hs40 (Nat.le_trans hs43 (Nat.le_trans hs47 (Nat.le_trans hs50 (Nat.le_trans hs52 (Nat.le_trans hs55 (Nat.le_trans hs67 (Nat.le_trans hs72 (Nat.le_trans hs75 (Nat.le_trans hs77 (Nat.le_trans hs85 (Nat.le_trans hs89 (Nat.le_trans hs92 (Nat.le_trans hs94 (Nat.le_trans hs96 hs124))))))))))))))))))) (Nat.le_of_eq hzO126)))) zt110
              replace bO45_t111 := ho.box (Nat.ne_of_gt (Nat.lt_of_lt_of_le lt48 (Nat.le_trans (Nat.le_trans hs50 (Nat.le_trans hs52 (Nat.le_trans hs55 (Nat.le_trans hs67 (Nat.le_trans hs72 (Nat.le_trans hs75 (Nat.le_trans hs77 (Nat.le_trans hs85 (Nat.le_trans hs89 (Nat.le_trans hs92 (Nat.le_trans hs94 (Nat.le_trans hs96 hs124)))))))))))) (Nat.le_of_eq hzO126)))) bO45_t111
              replace bO45_t112 := ho.box (Nat.ne_of_gt (Nat.lt_of_lt_of_le lt48 (Nat.le_trans (Nat.le_trans hs50 (Nat.le_trans hs52 (Nat.le_trans hs55 (Nat.le_trans hs67 (Nat.le_trans hs72 (Nat.le_trans hs75 (Nat.le_trans hs77 (Nat.le_trans hs85 (Nat.le_trans hs89 (Nat.le_trans hs92 (Nat.le_trans hs94 (Nat.le_trans hs96 hs124)))))))))))) (Nat.le_of_eq hzO126)))) bO45_t112
              replace hrt113 := ho.rows (Nat.ne_of_gt (Nat.lt_of_lt_of_le lt68 (Nat.le_trans (Nat.le_trans hs72 (Nat.le_trans hs75 (Nat.le_trans hs77 (Nat.le_trans hs85 (Nat.le_trans hs89 (Nat.le_trans hs92 (Nat.le_trans hs94 (Nat.le_trans hs96 hs124)))))))) (Nat.le_of_eq hzO126)))) hrt113
              replace hrt114 := ho.rows (Nat.ne_of_gt (Nat.lt_of_lt_of_le lt69 (Nat.le_trans (Nat.le_trans hs72 (Nat.le_trans hs75 (Nat.le_trans hs77 (Nat.le_trans hs85 (Nat.le_trans hs89 (Nat.le_trans hs92 (Nat.le_trans hs94 (Nat.le_trans hs96 hs124)))))))) (Nat.le_of_eq hzO126)))) hrt114
              replace bO70_t115 := ho.box (Nat.ne_of_gt (Nat.lt_of_lt_of_le lt73 (Nat.le_trans (Nat.le_trans hs75 (Nat.le_trans hs77 (Nat.le_trans hs85 (Nat.le_trans hs89 (Nat.le_trans hs92 (Nat.le_trans hs94 (Nat.le_trans hs96 hs124))))))) (Nat.le_of_eq hzO126)))) bO70_t115
              replace bO70_t116 := ho.box (Nat.ne_of_gt (Nat.lt_of_lt_of_le lt73 (Nat.le_trans (Nat.le_trans hs75 (Nat.le_trans hs77 (Nat.le_trans hs85 (Nat.le_trans hs89 (Nat.le_trans hs92 (Nat.le_trans hs94 (Nat.le_trans hs96 hs124))))))) (Nat.le_of_eq hzO126)))) bO70_t116
              replace hr83 := ho.rows (Nat.ne_of_gt (Nat.lt_of_lt_of_le lt86 (Nat.le_trans (Nat.le_trans hs89 (Nat.le_trans hs92 (Nat.le_trans hs94 (Nat.le_trans hs96 hs124)))) (Nat.le_of_eq hzO126)))) hr83
              replace bO87_0 := ho.box (Nat.ne_of_gt (Nat.lt_of_lt_of_le lt90 (Nat.le_trans (Nat.le_trans hs92 (Nat.le_trans hs94 (Nat.le_trans hs96 hs124))) (Nat.le_of_eq hzO126)))) bO87_0
              replace hr121 := ho.rows (Nat.ne_of_gt (Nat.lt_of_lt_of_le lt125 (Nat.le_of_eq hzO126))) hr121
              have hs131 : X127.heap.size ≤ X130.heap.size := Nat.le_of_eq ho.size.symm
              clear ho hk bO126_0
              have bO126_0 := hv0; clear hv0
              refine pl_take (.int .i64 0) rfl (by kernel_rfl) (by kernel_rfl) (by kernel_rfl) (by kernel_rfl) ?_
              refine pl_nil ?_
              refine qw_then ?_
              refine cw_clean [2, 4, 11, 12, 13, 14, 15, 16, 18, 20, 23, 25, 26] (ws' := [(2, .slice (some ⟨b2, o2, none⟩) n2 c2), (4, .slice a4 n4 c4), (11, .slice (some ⟨O15, 0, none⟩) 2 2), (12, .slice aS i cS), (13, .slice aP i cP), (14, .slice aR i cR), (15, .pointer (some ⟨O26, 0, none⟩)), (16, .int .i64 (((i : Nat) : Int) : Int)), (18, .pointer (some ⟨O45, 0, none⟩)), (20, .pointer (some ⟨O70, 0, none⟩)), (23, .pointer (some ⟨O87, 0, none⟩)), (25, .pointer (some ⟨O126, 0, none⟩)), (26, .int .i64 0)]) (by kernel_rfl) (fun L => ?_)
              refine cw_seq ?_
              refine cw_seq ?_
              refine cw_plain ?_
              refine pl_take (.int .i64 0) rfl (by kernel_rfl) (by kernel_rfl) (by kernel_rfl) (by kernel_rfl) ?_
              refine pl_take (.bool false) rfl (by kernel_rfl) (by kernel_rfl) (by kernel_rfl) (by kernel_rfl) ?_
              refine pl_nil ?_
              refine qw_then ?_
              refine cw_clean [2, 4, 11, 12, 13, 14, 15, 16, 18, 20, 23, 25, 164] (ws' := [(2, .slice (some ⟨b2, o2, none⟩) n2 c2), (4, .slice a4 n4 c4), (11, .slice (some ⟨O15, 0, none⟩) 2 2), (12, .slice aS i cS), (13, .slice aP i cP), (14, .slice aR i cR), (15, .pointer (some ⟨O26, 0, none⟩)), (16, .int .i64 (((i : Nat) : Int) : Int)), (18, .pointer (some ⟨O45, 0, none⟩)), (20, .pointer (some ⟨O70, 0, none⟩)), (23, .pointer (some ⟨O87, 0, none⟩)), (25, .pointer (some ⟨O126, 0, none⟩)), (164, .bool false)]) (by kernel_rfl) (fun L => ?_)
              refine cw_f (by kernel_rfl) ?_
              refine cw_skip ?_
              refine qw_then ?_
              refine cw_plain ?_
              refine pl_take (.agg #[.slice (some ⟨B118, 0, none⟩) 24 k119]) rfl (by kernel_rfl) (by kernel_rfl) (by kernel_rfl) (ex_load rfl (by kernel_rfl) (ld33 (bO126_0.1))) ?_
              refine pl_put rfl (by kernel_rfl) (by kernel_rfl) (sn_set (O := O26) (j := 0) (v := .slice (some ⟨B118, 0, none⟩) 24 k119) (ex_store (p := .pointer (some ⟨O26, 0, none⟩)) (v := .agg #[.slice (some ⟨B118, 0, none⟩) 24 k119]) rfl (by kernel_rfl) (by kernel_rfl) (st33 zAt98.1 zAt98.2)) zAt98 ?_)
              intro X132 ho hv0 hk
              replace hE := ho.ext hE (Nat.le_trans (Nat.le_trans hs3 (Nat.le_trans hs7 (Nat.le_trans hs10 (Nat.le_trans hs12 (Nat.le_trans hs14 (Nat.le_trans hs17 hs24)))))) (Nat.le_of_eq hzO26))
              replace hX19 := ho.ext hX19 (Nat.le_trans hs24 (Nat.le_of_eq hzO26))
              replace ownSt99 := ownSt99.turn ho (own_not (ownSt99.base) (Nat.lt_of_lt_of_le lt29 hs31)) (fun _ _ _ h => by rw [h.2]; exact fun b hb => by cases hb)
              replace ownPt100 := ownPt100.turn ho (own_not (ownPt100.base) (Nat.lt_of_lt_of_le lt29 hs31)) (fun _ _ _ h => by rw [h.2]; exact fun b hb => by cases hb)
              replace ownRt101 := ownRt101.turn ho (own_not (ownRt101.base) (Nat.lt_of_lt_of_le lt29 hs31)) (fun _ _ _ h => by rw [h.2]; exact fun b hb => by cases hb)
              replace hRdt102 := Rd.turn hRdt102 ho hTO
              replace hAlt103 := AllR.turn hAlt103 ho hTO
              replace zt104 := ho.cell (Nat.ne_of_gt (Nat.lt_of_lt_of_le lt18 (Nat.le_trans hs24 (Nat.le_of_eq hzO26)))) zt104
              replace zt105 := ho.cell (Nat.ne_of_gt (Nat.lt_of_lt_of_le lt18 (Nat.le_trans hs24 (Nat.le_of_eq hzO26)))) zt105
              replace zt106 := ho.cell (Nat.ne_of_gt (Nat.lt_of_lt_of_le lt18 (Nat.le_trans hs24 (Nat.le_of_eq hzO26)))) zt106
              replace zt107 := ho.cell (Nat.ne_of_gt (Nat.lt_of_lt_of_le lt18 (Nat.le_trans hs24 (Nat.le_of_eq hzO26)))) zt107
              replace zt108 := ho.cell (Nat.ne_of_gt (Nat.lt_of_lt_of_le lt18 (Nat.le_trans hs24 (Nat.le_of_eq hzO26)))) zt108
              replace zt109 := ho.cell (Nat.ne_of_gt (Nat.lt_of_lt_of_le lt18 (Nat.le_trans hs24 (Nat.le_of_eq hzO26)))) zt109
              replace zt110 := ho.cell (Nat.ne_of_gt (Nat.lt_of_lt_of_le lt18 (Nat.le_trans hs24 (Nat.le_of_eq hzO26)))) zt110
              replace bO45_t111 := ho.box (Nat.ne_of_lt (Nat.lt_of_lt_of_le lt29 (Nat.le_trans (Nat.le_trans hs31 (Nat.le_trans hs33 (Nat.le_trans hs40 hs43))) (Nat.le_of_eq hzO45)))) bO45_t111
              replace bO45_t112 := ho.box (Nat.ne_of_lt (Nat.lt_of_lt_of_le lt29 (Nat.le_trans (Nat.le_trans hs31 (Nat.le_trans hs33 (Nat.le_trans hs40 hs43))) (Nat.le_of_eq hzO45)))) bO45_t112
              replace hrt113 := ho.rows (Nat.ne_of_lt (Nat.lt_of_lt_of_le lt29 (Nat.le_trans (Nat.le_trans hs31 (Nat.le_trans hs33 (Nat.le_trans hs40 (Nat.le_trans hs43 (Nat.le_trans hs47 (Nat.le_trans hs50 (Nat.le_trans hs52 hs55))))))) hn61))) hrt113
              replace hrt114 := ho.rows (Nat.ne_of_lt (Nat.lt_of_lt_of_le lt29 (Nat.le_trans (Nat.le_trans hs31 (Nat.le_trans hs33 (Nat.le_trans hs40 (Nat.le_trans hs43 (Nat.le_trans hs47 (Nat.le_trans hs50 (Nat.le_trans hs52 hs55))))))) hn62))) hrt114
              replace bO70_t115 := ho.box (Nat.ne_of_lt (Nat.lt_of_lt_of_le lt29 (Nat.le_trans (Nat.le_trans hs31 (Nat.le_trans hs33 (Nat.le_trans hs40 (Nat.le_trans hs43 (Nat.le_trans hs47 (Nat.le_trans hs50 (Nat.le_trans hs52 (Nat.le_trans hs55 hs67)))))))) (Nat.le_of_eq hzO70)))) bO70_t115
              replace bO70_t116 := ho.box (Nat.ne_of_lt (Nat.lt_of_lt_of_le lt29 (Nat.le_trans (Nat.le_trans hs31 (Nat.le_trans hs33 (Nat.le_trans hs40 (Nat.le_trans hs43 (Nat.le_trans hs47 (Nat.le_trans hs50 (Nat.le_trans hs52 (Nat.le_trans hs55 hs67)))))))) (Nat.le_of_eq hzO70)))) bO70_t116
              replace hr83 := ho.rows (Nat.ne_of_lt (Nat.lt_of_lt_of_le lt29 (Nat.le_trans (Nat.le_trans hs31 (Nat.le_trans hs33 (Nat.le_trans hs40 (Nat.le_trans hs43 (Nat.le_trans hs47 (Nat.le_trans hs50 (Nat.le_trans hs52 (Nat.le_trans hs55 (Nat.le_trans hs67 (Nat.le_trans hs72 (Nat.le_trans hs75 hs77))))))))))) hn82))) hr83
              replace bO87_0 := ho.box (Nat.ne_of_lt (Nat.lt_of_lt_of_le lt29 (Nat.le_trans (Nat.le_trans hs31 (Nat.le_trans hs33 (Nat.le_trans hs40 (Nat.le_trans hs43 (Nat.le_trans hs47 (Nat.le_trans hs50 (Nat.le_trans hs52 (Nat.le_trans hs55 (Nat.le_trans hs67 (Nat.le_trans hs72 (Nat.le_trans hs75 (Nat.le_trans hs77 hs85)))))))))))) (Nat.le_of_eq hzO87)))) bO87_0
              replace hr121 := ho.rows (Nat.ne_of_lt (Nat.lt_of_lt_of_le lt29 (Nat.le_trans (Nat.le_trans hs31 (Nat.le_trans hs33 (Nat.le_trans hs40 (Nat.le_trans hs43 (Nat.le_trans hs47 (Nat.le_trans hs50 (Nat.le_trans hs52 (Nat.le_trans hs55 (Nat.le_trans hs67 (Nat.le_trans hs72 (Nat.le_trans hs75 (Nat.le_trans hs77 (Nat.le_trans hs85 (Nat.le_trans hs89 (Nat.le_trans hs92 (Nat.le_trans hs94 hs96)))))))))))))))) hn120))) hr121
              replace bO126_0 := ho.box (Nat.ne_of_lt (Nat.lt_of_lt_of_le lt29 (Nat.le_trans (Nat.le_trans hs31 (Nat.le_trans hs33 (Nat.le_trans hs40 (Nat.le_trans hs43 (Nat.le_trans hs47 (Nat.le_trans hs50 (Nat.le_trans hs52 (Nat.le_trans hs55 (Nat.le_trans hs67 (Nat.le_trans hs72 (Nat.le_trans hs75 (Nat.le_trans hs77 (Nat.le_trans hs85 (Nat.le_trans hs89 (Nat.le_trans hs92 (Nat.le_trans hs94 (Nat.le_trans hs96 hs124))))))))))))))))) (Nat.le_of_eq hzO126)))) bO126_0
              have hs133 : X130.heap.size ≤ X132.heap.size := Nat.le_of_eq ho.size.symm
              clear ho hk zAt98
              have zAt98 := hv0; clear hv0
              refine pl_nil ?_
              exact qw_leaf hJ [2, 4, 11, 12, 13, 14, 15, 16, 18, 20, 23] (ws' := [(2, .slice (some ⟨b2, o2, none⟩) n2 c2), (4, .slice a4 n4 c4), (11, .slice (some ⟨O15, 0, none⟩) 2 2), (12, .slice aS i cS), (13, .slice aP i cP), (14, .slice aR i cR), (15, .pointer (some ⟨O26, 0, none⟩)), (16, .int .i64 (((i : Nat) : Int) : Int)), (18, .pointer (some ⟨O45, 0, none⟩)), (20, .pointer (some ⟨O70, 0, none⟩)), (23, .pointer (some ⟨O87, 0, none⟩))]) (by kernel_rfl) ⟨(fun k => T k ∨ k = B118), (Globe.unionL A (Swath.sureL o s ((((pk56 : Nat) : Int)) - 4))), B118, k119, rfl, (Nat.le_trans hs124 (Nat.le_trans hs128 (Nat.le_trans hs131 hs133))), hE, hX19, ownSt99, ownPt100, ownRt101, hRdt102, zt104, zt105, zt106, zt107, zt108, zt109, zt110, bO45_t111, bO45_t112, hrt113, hrt114, bO70_t115, bO70_t116, hr83, bO87_0, zAt98, ⟨RowsAt.va hr121 (Globe.union_valid hvA (Swath.sure_valid hok _ _)), .inr rfl⟩, (Globe.union_valid hvA (Swath.sure_valid hok _ _)), (fun k h => .inl h), (fun k h => by rcases h with h | rfl; exact .inl h; exact .inr ⟨(Nat.le_trans (Nat.le_trans hs40 (Nat.le_trans hs43 (Nat.le_trans hs47 (Nat.le_trans hs50 (Nat.le_trans hs52 (Nat.le_trans hs55 (Nat.le_trans hs67 (Nat.le_trans hs72 (Nat.le_trans hs75 (Nat.le_trans hs77 (Nat.le_trans hs85 (Nat.le_trans hs89 (Nat.le_trans hs92 (Nat.le_trans hs94 hs96)))))))))))))) hn120), (Nat.lt_of_lt_of_le lt125 (Nat.le_trans hs128 (Nat.le_trans hs131 hs133)))⟩)⟩
          ·
            clear zAt98 ownSt99 ownPt100 ownRt101 hRdt102 hAlt103 zt104 zt105 zt106 zt107 zt108 zt109 zt110 bO45_t111 bO45_t112 hrt113 hrt114 bO70_t115 bO70_t116 hr83 bO87_0 hE hX19
            rintro L ws w134 ⟨T2, A2, B8, k8, rfl, hs117, hE, hX19, ownSt99, ownPt100, ownRt101, hRdt102, zt104, zt105, zt106, zt107, zt108, zt109, zt110, bO45_t111, bO45_t112, hrt113, hrt114, bO70_t115, bO70_t116, hr83, bO87_0, zA2, hAl2, hvA2, hTs, hTn⟩
            refine qw_then ?_
            refine cw_seq ?_
            obtain ⟨cl9, hcl9⟩ : ∃ c, (pickF ((q2 i 2).tdiv 40) 2 == (0 : Int)) = c := ⟨_, rfl⟩
            have hmT := fun k h => (hTn k h).imp id And.left
            have hV1 := hT1.more hbS hmT
            have hV2 := hT2.more hbP hmT
            have hV3 := hT3.more hbR hmT
            have hTl2 : ∀ k, T2 k → k < w134.heap.size := fun k h => (hTn k h).elim (fun q => Nat.lt_of_lt_of_le (hTl k q) (Nat.le_trans hs40 (Nat.le_trans hs43 (Nat.le_trans hs47 (Nat.le_trans hs50 (Nat.le_trans hs52 (Nat.le_trans hs55 (Nat.le_trans hs67 (Nat.le_trans hs72 (Nat.le_trans hs75 (Nat.le_trans hs77 (Nat.le_trans hs85 (Nat.le_trans hs89 (Nat.le_trans hs92 (Nat.le_trans hs94 (Nat.le_trans hs96 hs117)))))))))))))))) (fun q => q.2)
            have hTO2 : ¬ T2 O26 := fun h => (hTn _ h).elim hTO (fun q => absurd q.1 (Nat.not_le_of_lt (Nat.lt_of_lt_of_le lt29 (Nat.le_trans hs31 hs33))))
            have hyl := (hRdt102).len.symm.trans hxl
            have hOk9 : Top.OkI ys.length (⟨Swath.sureL o s ((((pk56 : Nat) : Int)) - 4), Swath.canL o s ((((pk56 : Nat) : Int)) - 4), Swath.showL o ((((pk56 : Nat) : Int)) - 4) (s.1 - dl) (s.2 - s.1).toNat, ((i : Nat) : Int), s.1, cl9⟩ : Top.Item) := ⟨by rw [hyl], by show 0 ≤ s.1; omega, by show s.1 ≤ 1000000; omega, Swath.sure_valid hok _ _, Swath.can_valid hok _ _, Swath.show_valid hok _ _ _, Swath.can_sure hok _ _, Top.real_sure hok hd0 hd1⟩
            have hRd135 := Rd.mono hRdt102 hTs
            refine cw_plain ?_
            refine pl_take (.slice aS i cS) rfl (by kernel_rfl) (by kernel_rfl) (by kernel_rfl) (by kernel_rfl) ?_
            refine pl_take (.agg #[.slice (some ⟨B57, 0, none⟩) 24 k59, .slice (some ⟨g58, 0, none⟩) 24 k60]) rfl (by kernel_rfl) (by kernel_rfl) (by kernel_rfl) (ex_load rfl (by kernel_rfl) (ld40 (bO70_t115.1) (bO70_t116.1))) ?_
            refine pl_step rfl (by kernel_rfl) (by kernel_rfl) (by kernel_rfl) (sn_newS (us := #[.slice (some ⟨B57, 0, none⟩) 24 k59, .slice (some ⟨g58, 0, none⟩) 24 k60]) (t := 40) (k := 1) (c := 1) (by kernel_rfl) ?_)
            intro O136 X137 hO hOs hb hbx
            have hzO136 := hO; have hyO136 := hOs; clear hO hOs
            have bO136_0 : BoxAt X137 O136 0 (.slice (some ⟨B57, 0, none⟩) 24 k59) := hbx 0 _ rfl
            have bO136_1 : BoxAt X137 O136 1 (.slice (some ⟨g58, 0, none⟩) 24 k60) := hbx 1 _ rfl
            clear hbx
            replace hE := hE.trans hb
            replace hX19 := hX19.trans hb
            replace ownSt99 := ownSt99.ext hb
            replace ownPt100 := ownPt100.ext hb
            replace ownRt101 := ownRt101.ext hb
            replace zt104 := hb.cell zt104
            replace zt105 := hb.cell zt105
            replace zt106 := hb.cell zt106
            replace zt107 := hb.cell zt107
            replace zt108 := hb.cell zt108
            replace zt109 := hb.cell zt109
            replace zt110 := hb.cell zt110
            replace bO45_t111 := BoxAt.ext hb bO45_t111
            replace bO45_t112 := BoxAt.ext hb bO45_t112
            replace hrt113 := hrt113.ext hb
            replace hrt114 := hrt114.ext hb
            replace bO70_t115 := BoxAt.ext hb bO70_t115
            replace bO70_t116 := BoxAt.ext hb bO70_t116
            replace hr83 := hr83.ext hb
            replace bO87_0 := BoxAt.ext hb bO87_0
            replace zA2 := BoxAt.ext hb zA2
            replace hAl2 := AllR.ext hAl2 hb
            replace hRd135 := Rd.ext hRd135 hb
            have hs138 := hb.size
            clear hb
            have lt139 := bO136_0.lt
            have hlo140 := (ownPt100).lt
            have hlo141 := (ownRt101).lt
            have hbs154 := ownSt99.base
            obtain ⟨g144, cap145, w146, hrun147, own148, hgr149, hgb150, hor142⟩ := own_app1h (P := Tryz.prog) (ty := 29) stripT9 (ownSt99) (Nat.le_trans hs33 (Nat.le_trans hs40 (Nat.le_trans hs43 (Nat.le_trans hs47 (Nat.le_trans hs50 (Nat.le_trans hs52 (Nat.le_trans hs55 (Nat.le_trans hs67 (Nat.le_trans hs72 (Nat.le_trans hs75 (Nat.le_trans hs77 (Nat.le_trans hs85 (Nat.le_trans hs89 (Nat.le_trans hs92 (Nat.le_trans hs94 (Nat.le_trans hs96 (Nat.le_trans hs117 hs138))))))))))))))))) (k := i) hxl (O := O136) (c := 1) (x := (⟨B57, k59, g58, k60, B81, 24, ((i : Nat) : Int), s.1, cl9⟩ : RX)) (d := [.slice (some ⟨B57, 0, none⟩) 24 k59, .slice (some ⟨g58, 0, none⟩) 24 k60]) (F := []) rfl (cells2 (bO136_0.1) (bO136_1.1)) (by simp [Value.oneCell']) ⟨rfl, rfl⟩ (fun b hb => by cases hb) (by omega) (by omega)
            refine pl_step rfl (by kernel_rfl) (by kernel_rfl) (by kernel_rfl) (sn_eff (v := .slice (some ⟨g144, 0, none⟩) (i + 1) cap145) (w' := w146) (ex_append rfl (by kernel_rfl) (by kernel_rfl) hrun147) ?_)
            replace ownPt100 := OwnL.grown ownPt100 hgb150 (⟨(hap12.symm).kept, rx_noF _⟩)
            replace ownRt101 := OwnL.grown ownRt101 hgb150 (⟨(hap13.symm).kept, rx_noF _⟩)
            replace zt104 := cell_grownR zt104 hgb150 (own_not hbs154 (Nat.lt_of_lt_of_le lt18 (Nat.le_trans hs24 (Nat.le_trans hs28 hs31))))
            replace zt105 := cell_grownR zt105 hgb150 (own_not hbs154 (Nat.lt_of_lt_of_le lt18 (Nat.le_trans hs24 (Nat.le_trans hs28 hs31))))
            replace zt106 := cell_grownR zt106 hgb150 (own_not hbs154 (Nat.lt_of_lt_of_le lt18 (Nat.le_trans hs24 (Nat.le_trans hs28 hs31))))
            replace zt107 := cell_grownR zt107 hgb150 (own_not hbs154 (Nat.lt_of_lt_of_le lt18 (Nat.le_trans hs24 (Nat.le_trans hs28 hs31))))
            replace zt108 := cell_grownR zt108 hgb150 (own_not hbs154 (Nat.lt_of_lt_of_le lt18 (Nat.le_trans hs24 (Nat.le_trans hs28 hs31))))
            replace zt109 := cell_grownR zt109 hgb150 (own_not hbs154 (Nat.lt_of_lt_of_le lt18 (Nat.le_trans hs24 (Nat.le_trans hs28 hs31))))
            replace zt110 := cell_grownR zt110 hgb150 (own_not hbs154 (Nat.lt_of_lt_of_le lt18 (Nat.le_trans hs24 (Nat.le_trans hs28 hs31))))
            replace bO45_t111 := BoxAt.grownR bO45_t111 hgb150 (own_not2 hbS (Nat.le_trans (Nat.le_trans hs40 hs43) (Nat.le_of_eq hzO45)))
            replace bO45_t112 := BoxAt.grownR bO45_t112 hgb150 (own_not2 hbS (Nat.le_trans (Nat.le_trans hs40 hs43) (Nat.le_of_eq hzO45)))
            replace hrt113 := RowsAt.grownR hrt113 hgb150 (own_not2 hbS (Nat.le_trans (Nat.le_trans hs40 (Nat.le_trans hs43 (Nat.le_trans hs47 (Nat.le_trans hs50 (Nat.le_trans hs52 hs55))))) hn61))
            replace hrt114 := RowsAt.grownR hrt114 hgb150 (own_not2 hbS (Nat.le_trans (Nat.le_trans hs40 (Nat.le_trans hs43 (Nat.le_trans hs47 (Nat.le_trans hs50 (Nat.le_trans hs52 hs55))))) hn62))
            replace bO70_t115 := BoxAt.grownR bO70_t115 hgb150 (own_not2 hbS (Nat.le_trans (Nat.le_trans hs40 (Nat.le_trans hs43 (Nat.le_trans hs47 (Nat.le_trans hs50 (Nat.le_trans hs52 (Nat.le_trans hs55 hs67)))))) (Nat.le_of_eq hzO70)))
            replace bO70_t116 := BoxAt.grownR bO70_t116 hgb150 (own_not2 hbS (Nat.le_trans (Nat.le_trans hs40 (Nat.le_trans hs43 (Nat.le_trans hs47 (Nat.le_trans hs50 (Nat.le_trans hs52 (Nat.le_trans hs55 hs67)))))) (Nat.le_of_eq hzO70)))
            replace hr83 := RowsAt.grownR hr83 hgb150 (own_not2 hbS (Nat.le_trans (Nat.le_trans hs40 (Nat.le_trans hs43 (Nat.le_trans hs47 (Nat.le_trans hs50 (Nat.le_trans hs52 (Nat.le_trans hs55 (Nat.le_trans hs67 (Nat.le_trans hs72 (Nat.le_trans hs75 hs77))))))))) hn82))
            replace bO87_0 := BoxAt.grownR bO87_0 hgb150 (own_not2 hbS (Nat.le_trans (Nat.le_trans hs40 (Nat.le_trans hs43 (Nat.le_trans hs47 (Nat.le_trans hs50 (Nat.le_trans hs52 (Nat.le_trans hs55 (Nat.le_trans hs67 (Nat.le_trans hs72 (Nat.le_trans hs75 (Nat.le_trans hs77 hs85)))))))))) (Nat.le_of_eq hzO87)))
            replace zA2 := BoxAt.grownR zA2 hgb150 (own_not hbs154 (Nat.lt_of_lt_of_le lt29 hs31))
            replace hAl2 := AllR.grown hAl2 hgb150 hV1
            replace hRd135 := Rd.grown hRd135 hgb150 hV1
            replace bO136_0 := BoxAt.grownR bO136_0 hgb150 (own_not2 hbS (Nat.le_trans (Nat.le_trans hs40 (Nat.le_trans hs43 (Nat.le_trans hs47 (Nat.le_trans hs50 (Nat.le_trans hs52 (Nat.le_trans hs55 (Nat.le_trans hs67 (Nat.le_trans hs72 (Nat.le_trans hs75 (Nat.le_trans hs77 (Nat.le_trans hs85 (Nat.le_trans hs89 (Nat.le_trans hs92 (Nat.le_trans hs94 (Nat.le_trans hs96 hs117))))))))))))))) (Nat.le_of_eq hzO136)))
            replace bO136_1 := BoxAt.grownR bO136_1 hgb150 (own_not2 hbS (Nat.le_trans (Nat.le_trans hs40 (Nat.le_trans hs43 (Nat.le_trans hs47 (Nat.le_trans hs50 (Nat.le_trans hs52 (Nat.le_trans hs55 (Nat.le_trans hs67 (Nat.le_trans hs72 (Nat.le_trans hs75 (Nat.le_trans hs77 (Nat.le_trans hs85 (Nat.le_trans hs89 (Nat.le_trans hs92 (Nat.le_trans hs94 (Nat.le_trans hs96 hs117))))))))))))))) (Nat.le_of_eq hzO136)))
            replace hE := hgr149.ext _ hE (Nat.le_trans hs3 (Nat.le_trans hs7 (Nat.le_trans hs10 (Nat.le_trans hs12 (Nat.le_trans hs14 (Nat.le_trans hs17 (Nat.le_trans hs24 (Nat.le_trans hs28 hs31))))))))
            replace hX19 := hgr149.ext _ hX19 (Nat.le_trans hs24 (Nat.le_trans hs28 hs31))
            have hs151 := hgr149.size
            have hl152 := own148.base g144 rfl; have hh153 := own148.lt g144 rfl
            have hOut143 : OutT (.slice (some ⟨g144, 0, none⟩) (i + 1) cap145) (NextT T2 B57 g58 B81) := hV1.next hbS (fun k h => Nat.lt_of_lt_of_le (hTl2 k h) hs138) hor142 ⟨(Nat.le_trans (Nat.le_trans hs40 (Nat.le_trans hs43 (Nat.le_trans hs47 (Nat.le_trans hs50 (Nat.le_trans hs52 hs55))))) hn61), (Nat.lt_of_lt_of_le lt68 (Nat.le_trans hs72 (Nat.le_trans hs75 (Nat.le_trans hs77 (Nat.le_trans hs85 (Nat.le_trans hs89 (Nat.le_trans hs92 (Nat.le_trans hs94 (Nat.le_trans hs96 (Nat.le_trans hs117 hs138))))))))))⟩ ⟨(Nat.le_trans (Nat.le_trans hs40 (Nat.le_trans hs43 (Nat.le_trans hs47 (Nat.le_trans hs50 (Nat.le_trans hs52 hs55))))) hn62), (Nat.lt_of_lt_of_le lt69 (Nat.le_trans hs72 (Nat.le_trans hs75 (Nat.le_trans hs77 (Nat.le_trans hs85 (Nat.le_trans hs89 (Nat.le_trans hs92 (Nat.le_trans hs94 (Nat.le_trans hs96 (Nat.le_trans hs117 hs138))))))))))⟩ ⟨(Nat.le_trans (Nat.le_trans hs40 (Nat.le_trans hs43 (Nat.le_trans hs47 (Nat.le_trans hs50 (Nat.le_trans hs52 (Nat.le_trans hs55 (Nat.le_trans hs67 (Nat.le_trans hs72 (Nat.le_trans hs75 hs77))))))))) hn82), (Nat.lt_of_lt_of_le lt86 (Nat.le_trans hs89 (Nat.le_trans hs92 (Nat.le_trans hs94 (Nat.le_trans hs96 (Nat.le_trans hs117 hs138))))))⟩
            replace hap12 : Apart (.slice (some ⟨g144, 0, none⟩) (i + 1) cap145) (.slice aP i cP) := hap12.grow hor142 hlo140
            replace hap13 : Apart (.slice (some ⟨g144, 0, none⟩) (i + 1) cap145) (.slice aR i cR) := hap13.grow hor142 hlo141
            have hbk156 := own148.lt
            refine pl_take (.slice (some ⟨g144, 0, none⟩) (i + 1) cap145) rfl (by kernel_rfl) (by kernel_rfl) (by kernel_rfl) (by kernel_rfl) ?_
            refine pl_nil ?_
            refine qw_then ?_
            refine cw_clean [2, 4, 11, 12, 13, 14, 15, 16, 18, 20, 23] (ws' := [(2, .slice (some ⟨b2, o2, none⟩) n2 c2), (4, .slice a4 n4 c4), (11, .slice (some ⟨O15, 0, none⟩) 2 2), (12, .slice (some ⟨g144, 0, none⟩) (i + 1) cap145), (13, .slice aP i cP), (14, .slice aR i cR), (15, .pointer (some ⟨O26, 0, none⟩)), (16, .int .i64 (((i : Nat) : Int) : Int)), (18, .pointer (some ⟨O45, 0, none⟩)), (20, .pointer (some ⟨O70, 0, none⟩)), (23, .pointer (some ⟨O87, 0, none⟩))]) (by kernel_rfl) (fun L => ?_)
            refine cw_seq ?_
            refine cw_plain ?_
            refine pl_take (.slice aR i cR) rfl (by kernel_rfl) (by kernel_rfl) (by kernel_rfl) (by kernel_rfl) ?_
            refine pl_take (.agg #[.slice (some ⟨B81, 0, none⟩) 24 24]) rfl (by kernel_rfl) (by kernel_rfl) (by kernel_rfl) (ex_load rfl (by kernel_rfl) (ld33 (bO87_0.1))) ?_
            refine pl_step rfl (by kernel_rfl) (by kernel_rfl) (by kernel_rfl) (sn_newS (us := #[.slice (some ⟨B81, 0, none⟩) 24 24]) (t := 33) (k := 1) (c := 1) (by kernel_rfl) ?_)
            intro O157 X158 hO hOs hb hbx
            have hzO157 := hO; have hyO157 := hOs; clear hO hOs
            have bO157_0 : BoxAt X158 O157 0 (.slice (some ⟨B81, 0, none⟩) 24 24) := hbx 0 _ rfl
            clear hbx
            replace hE := hE.trans hb
            replace hX19 := hX19.trans hb
            replace ownPt100 := ownPt100.ext hb
            replace ownRt101 := ownRt101.ext hb
            replace zt104 := hb.cell zt104
            replace zt105 := hb.cell zt105
            replace zt106 := hb.cell zt106
            replace zt107 := hb.cell zt107
            replace zt108 := hb.cell zt108
            replace zt109 := hb.cell zt109
            replace zt110 := hb.cell zt110
            replace bO45_t111 := BoxAt.ext hb bO45_t111
            replace bO45_t112 := BoxAt.ext hb bO45_t112
            replace hrt113 := hrt113.ext hb
            replace hrt114 := hrt114.ext hb
            replace bO70_t115 := BoxAt.ext hb bO70_t115
            replace bO70_t116 := BoxAt.ext hb bO70_t116
            replace hr83 := hr83.ext hb
            replace bO87_0 := BoxAt.ext hb bO87_0
            replace zA2 := BoxAt.ext hb zA2
            replace hAl2 := AllR.ext hAl2 hb
            replace hRd135 := Rd.ext hRd135 hb
            replace bO136_0 := BoxAt.ext hb bO136_0
            replace bO136_1 := BoxAt.ext hb bO136_1
            replace own148 := own148.ext hb
            have hs159 := hb.size
            clear hb
            have lt160 := bO157_0.lt
            have hlo161 := (own148).lt
            have hlo162 := (ownPt100).lt
            have hbs175 := ownRt101.base
            obtain ⟨g165, cap166, w167, hrun168, own169, hgr170, hgb171, hor163⟩ := own_app1h (P := Tryz.prog) (ty := 31) areaT9 (ownRt101) (Nat.le_trans hs33 (Nat.le_trans hs40 (Nat.le_trans hs43 (Nat.le_trans hs47 (Nat.le_trans hs50 (Nat.le_trans hs52 (Nat.le_trans hs55 (Nat.le_trans hs67 (Nat.le_trans hs72 (Nat.le_trans hs75 (Nat.le_trans hs77 (Nat.le_trans hs85 (Nat.le_trans hs89 (Nat.le_trans hs92 (Nat.le_trans hs94 (Nat.le_trans hs96 (Nat.le_trans hs117 (Nat.le_trans hs138 (Nat.le_trans hs151 hs159))))))))))))))))))) (k := i) hxl (O := O157) (c := 1) (x := (⟨B57, k59, g58, k60, B81, 24, ((i : Nat) : Int), s.1, cl9⟩ : RX)) (d := [.slice (some ⟨B81, 0, none⟩) 24 24]) (F := []) rfl (cells1 (bO157_0.1)) (by simp [Value.oneCell']) ⟨rfl, rfl⟩ (fun b hb => by cases hb) (by omega) (by omega)
            refine pl_step rfl (by kernel_rfl) (by kernel_rfl) (by kernel_rfl) (sn_eff (v := .slice (some ⟨g165, 0, none⟩) (i + 1) cap166) (w' := w167) (ex_append rfl (by kernel_rfl) (by kernel_rfl) hrun168) ?_)
            replace ownPt100 := OwnL.grown ownPt100 hgb171 (⟨(hap23).kept, rx_noF _⟩)
            replace zt104 := cell_grownR zt104 hgb171 (own_not hbs175 (Nat.lt_of_lt_of_le lt18 (Nat.le_trans hs24 (Nat.le_trans hs28 hs31))))
            replace zt105 := cell_grownR zt105 hgb171 (own_not hbs175 (Nat.lt_of_lt_of_le lt18 (Nat.le_trans hs24 (Nat.le_trans hs28 hs31))))
            replace zt106 := cell_grownR zt106 hgb171 (own_not hbs175 (Nat.lt_of_lt_of_le lt18 (Nat.le_trans hs24 (Nat.le_trans hs28 hs31))))
            replace zt107 := cell_grownR zt107 hgb171 (own_not hbs175 (Nat.lt_of_lt_of_le lt18 (Nat.le_trans hs24 (Nat.le_trans hs28 hs31))))
            replace zt108 := cell_grownR zt108 hgb171 (own_not hbs175 (Nat.lt_of_lt_of_le lt18 (Nat.le_trans hs24 (Nat.le_trans hs28 hs31))))
            replace zt109 := cell_grownR zt109 hgb171 (own_not hbs175 (Nat.lt_of_lt_of_le lt18 (Nat.le_trans hs24 (Nat.le_trans hs28 hs31))))
            replace zt110 := cell_grownR zt110 hgb171 (own_not hbs175 (Nat.lt_of_lt_of_le lt18 (Nat.le_trans hs24 (Nat.le_trans hs28 hs31))))
            replace bO45_t111 := BoxAt.grownR bO45_t111 hgb171 (own_not2 hbR (Nat.le_trans (Nat.le_trans hs40 hs43) (Nat.le_of_eq hzO45)))
            replace bO45_t112 := BoxAt.grownR bO45_t112 hgb171 (own_not2 hbR (Nat.le_trans (Nat.le_trans hs40 hs43) (Nat.le_of_eq hzO45)))
            replace hrt113 := RowsAt.grownR hrt113 hgb171 (own_not2 hbR (Nat.le_trans (Nat.le_trans hs40 (Nat.le_trans hs43 (Nat.le_trans hs47 (Nat.le_trans hs50 (Nat.le_trans hs52 hs55))))) hn61))
            replace hrt114 := RowsAt.grownR hrt114 hgb171 (own_not2 hbR (Nat.le_trans (Nat.le_trans hs40 (Nat.le_trans hs43 (Nat.le_trans hs47 (Nat.le_trans hs50 (Nat.le_trans hs52 hs55))))) hn62))
            replace bO70_t115 := BoxAt.grownR bO70_t115 hgb171 (own_not2 hbR (Nat.le_trans (Nat.le_trans hs40 (Nat.le_trans hs43 (Nat.le_trans hs47 (Nat.le_trans hs50 (Nat.le_trans hs52 (Nat.le_trans hs55 hs67)))))) (Nat.le_of_eq hzO70)))
            replace bO70_t116 := BoxAt.grownR bO70_t116 hgb171 (own_not2 hbR (Nat.le_trans (Nat.le_trans hs40 (Nat.le_trans hs43 (Nat.le_trans hs47 (Nat.le_trans hs50 (Nat.le_trans hs52 (Nat.le_trans hs55 hs67)))))) (Nat.le_of_eq hzO70)))
            replace hr83 := RowsAt.grownR hr83 hgb171 (own_not2 hbR (Nat.le_trans (Nat.le_trans hs40 (Nat.le_trans hs43 (Nat.le_trans hs47 (Nat.le_trans hs50 (Nat.le_trans hs52 (Nat.le_trans hs55 (Nat.le_trans hs67 (Nat.le_trans hs72 (Nat.le_trans hs75 hs77))))))))) hn82))
            replace bO87_0 := BoxAt.grownR bO87_0 hgb171 (own_not2 hbR (Nat.le_trans (Nat.le_trans hs40 (Nat.le_trans hs43 (Nat.le_trans hs47 (Nat.le_trans hs50 (Nat.le_trans hs52 (Nat.le_trans hs55 (Nat.le_trans hs67 (Nat.le_trans hs72 (Nat.le_trans hs75 (Nat.le_trans hs77 hs85)))))))))) (Nat.le_of_eq hzO87)))
            replace zA2 := BoxAt.grownR zA2 hgb171 (own_not hbs175 (Nat.lt_of_lt_of_le lt29 hs31))
            replace hAl2 := AllR.grown hAl2 hgb171 hV3
            replace hRd135 := Rd.grown hRd135 hgb171 hV3
            replace bO136_0 := BoxAt.grownR bO136_0 hgb171 (own_not2 hbR (Nat.le_trans (Nat.le_trans hs40 (Nat.le_trans hs43 (Nat.le_trans hs47 (Nat.le_trans hs50 (Nat.le_trans hs52 (Nat.le_trans hs55 (Nat.le_trans hs67 (Nat.le_trans hs72 (Nat.le_trans hs75 (Nat.le_trans hs77 (Nat.le_trans hs85 (Nat.le_trans hs89 (Nat.le_trans hs92 (Nat.le_trans hs94 (Nat.le_trans hs96 hs117))))))))))))))) (Nat.le_of_eq hzO136)))
            replace bO136_1 := BoxAt.grownR bO136_1 hgb171 (own_not2 hbR (Nat.le_trans (Nat.le_trans hs40 (Nat.le_trans hs43 (Nat.le_trans hs47 (Nat.le_trans hs50 (Nat.le_trans hs52 (Nat.le_trans hs55 (Nat.le_trans hs67 (Nat.le_trans hs72 (Nat.le_trans hs75 (Nat.le_trans hs77 (Nat.le_trans hs85 (Nat.le_trans hs89 (Nat.le_trans hs92 (Nat.le_trans hs94 (Nat.le_trans hs96 hs117))))))))))))))) (Nat.le_of_eq hzO136)))
            replace own148 := OwnL.grown own148 hgb171 (⟨(hap13).kept, rx_noF _⟩)
            replace bO157_0 := BoxAt.grownR bO157_0 hgb171 (own_not2 hbR (Nat.le_trans (Nat.le_trans hs40 (Nat.le_trans hs43 (Nat.le_trans hs47 (Nat.le_trans hs50 (Nat.le_trans hs52 (Nat.le_trans hs55 (Nat.le_trans hs67 (Nat.le_trans hs72 (Nat.le_trans hs75 (Nat.le_trans hs77 (Nat.le_trans hs85 (Nat.le_trans hs89 (Nat.le_trans hs92 (Nat.le_trans hs94 (Nat.le_trans hs96 (Nat.le_trans hs117 (Nat.le_trans hs138 hs151))))))))))))))))) (Nat.le_of_eq hzO157)))
            replace hE := hgr170.ext _ hE (Nat.le_trans hs3 (Nat.le_trans hs7 (Nat.le_trans hs10 (Nat.le_trans hs12 (Nat.le_trans hs14 (Nat.le_trans hs17 (Nat.le_trans hs24 (Nat.le_trans hs28 hs31))))))))
            replace hX19 := hgr170.ext _ hX19 (Nat.le_trans hs24 (Nat.le_trans hs28 hs31))
            have hs172 := hgr170.size
            have hl173 := own169.base g165 rfl; have hh174 := own169.lt g165 rfl
            have hOut164 : OutT (.slice (some ⟨g165, 0, none⟩) (i + 1) cap166) (NextT T2 B57 g58 B81) := hV3.next hbR (fun k h => Nat.lt_of_lt_of_le (hTl2 k h) (Nat.le_trans hs138 (Nat.le_trans hs151 hs159))) hor163 ⟨(Nat.le_trans (Nat.le_trans hs40 (Nat.le_trans hs43 (Nat.le_trans hs47 (Nat.le_trans hs50 (Nat.le_trans hs52 hs55))))) hn61), (Nat.lt_of_lt_of_le lt68 (Nat.le_trans hs72 (Nat.le_trans hs75 (Nat.le_trans hs77 (Nat.le_trans hs85 (Nat.le_trans hs89 (Nat.le_trans hs92 (Nat.le_trans hs94 (Nat.le_trans hs96 (Nat.le_trans hs117 (Nat.le_trans hs138 (Nat.le_trans hs151 hs159))))))))))))⟩ ⟨(Nat.le_trans (Nat.le_trans hs40 (Nat.le_trans hs43 (Nat.le_trans hs47 (Nat.le_trans hs50 (Nat.le_trans hs52 hs55))))) hn62), (Nat.lt_of_lt_of_le lt69 (Nat.le_trans hs72 (Nat.le_trans hs75 (Nat.le_trans hs77 (Nat.le_trans hs85 (Nat.le_trans hs89 (Nat.le_trans hs92 (Nat.le_trans hs94 (Nat.le_trans hs96 (Nat.le_trans hs117 (Nat.le_trans hs138 (Nat.le_trans hs151 hs159))))))))))))⟩ ⟨(Nat.le_trans (Nat.le_trans hs40 (Nat.le_trans hs43 (Nat.le_trans hs47 (Nat.le_trans hs50 (Nat.le_trans hs52 (Nat.le_trans hs55 (Nat.le_trans hs67 (Nat.le_trans hs72 (Nat.le_trans hs75 hs77))))))))) hn82), (Nat.lt_of_lt_of_le lt86 (Nat.le_trans hs89 (Nat.le_trans hs92 (Nat.le_trans hs94 (Nat.le_trans hs96 (Nat.le_trans hs117 (Nat.le_trans hs138 (Nat.le_trans hs151 hs159))))))))⟩
            replace hap13 : Apart (.slice (some ⟨g144, 0, none⟩) (i + 1) cap145) (.slice (some ⟨g165, 0, none⟩) (i + 1) cap166) := (hap13.symm.grow hor163 hlo161).symm
            replace hap23 : Apart (.slice aP i cP) (.slice (some ⟨g165, 0, none⟩) (i + 1) cap166) := (hap23.symm.grow hor163 hlo162).symm
            have hbk177 := own169.lt
            refine pl_take (.slice (some ⟨g165, 0, none⟩) (i + 1) cap166) rfl (by kernel_rfl) (by kernel_rfl) (by kernel_rfl) (by kernel_rfl) ?_
            refine pl_nil ?_
            refine qw_then ?_
            refine cw_clean [2, 4, 11, 12, 13, 14, 15, 16, 18, 20] (ws' := [(2, .slice (some ⟨b2, o2, none⟩) n2 c2), (4, .slice a4 n4 c4), (11, .slice (some ⟨O15, 0, none⟩) 2 2), (12, .slice (some ⟨g144, 0, none⟩) (i + 1) cap145), (13, .slice aP i cP), (14, .slice (some ⟨g165, 0, none⟩) (i + 1) cap166), (15, .pointer (some ⟨O26, 0, none⟩)), (16, .int .i64 (((i : Nat) : Int) : Int)), (18, .pointer (some ⟨O45, 0, none⟩)), (20, .pointer (some ⟨O70, 0, none⟩))]) (by kernel_rfl) (fun L => ?_)
            refine cw_draw [(some 174, [13], []), (some 175, [16], []), (some 176, [18], []), (some 177, [176], [2]), (some 178, [2], []), (some 179, [16], []), (some 180, [178, 179], [4, 5]), (some 181, [180], [6]), (some 182, [181], [7]), (some 183, [182], [8]), (some 184, [183], [9]), (some 185, [184], [10]), (some 186, [20], []), (some 187, [186], [12]), (some 188, [175, 177, 185, 187], [1, 3, 11, 13]), (some 189, [188], [14]), (some 190, [174, 189], [0, 15, 10]), (some 13, [190], [16, 16, 0, 1, 2, 3, 4, 5, 6, 7, 8, 9, 10, 11, 12, 13, 14, 15, 16])] (fun w' => w'.cell? ⟨O45, 0, none⟩ = some (.int .i64 (s.1 : Int)) ∧ w'.cell? ⟨b2, o2 + i * 4 + 2, none⟩ = some (.int .i64 (q2 i 2 : Int)) ∧ w'.cell? ⟨O70, 0, none⟩ = some (.slice (some ⟨B57, 0, none⟩) 24 k59)) (by kernel_rfl) (by kernel_rfl) (by kernel_rfl) (by kernel_rfl) ((calm_block (calm_then (calm_then (calm_block (calm_then calm_body)))))) (⟨bO45_t111.1, (hE.cell u2), bO70_t115.1⟩) (fun ops Q X178 hb hL hR hK => ?_)
            replace hE := hE.trans hb
            replace hX19 := hX19.trans hb
            replace ownPt100 := ownPt100.ext hb
            replace zt104 := hb.cell zt104
            replace zt105 := hb.cell zt105
            replace zt106 := hb.cell zt106
            replace zt107 := hb.cell zt107
            replace zt108 := hb.cell zt108
            replace zt109 := hb.cell zt109
            replace zt110 := hb.cell zt110
            replace bO45_t111 := BoxAt.ext hb bO45_t111
            replace bO45_t112 := BoxAt.ext hb bO45_t112
            replace hrt113 := hrt113.ext hb
            replace hrt114 := hrt114.ext hb
            replace bO70_t115 := BoxAt.ext hb bO70_t115
            replace bO70_t116 := BoxAt.ext hb bO70_t116
            replace hr83 := hr83.ext hb
            replace bO87_0 := BoxAt.ext hb bO87_0
            replace zA2 := BoxAt.ext hb zA2
            replace hAl2 := AllR.ext hAl2 hb
            replace hRd135 := Rd.ext hRd135 hb
            replace bO136_0 := BoxAt.ext hb bO136_0
            replace bO136_1 := BoxAt.ext hb bO136_1
            replace own148 := own148.ext hb
            replace bO157_0 := BoxAt.ext hb bO157_0
            replace own169 := own169.ext hb
            have hs179 := hb.size
            clear hb
            refine wd_take 0 (.slice aP i cP) hR rfl (by kernel_rfl) rfl (by kernel_rfl) (fun w _ => by kernel_rfl) (⟨bO45_t111.1, (hE.cell u2), bO70_t115.1⟩) ?_
            refine wd_take 1 (.int .i64 (((i : Nat) : Int) : Int)) hR rfl (by kernel_rfl) rfl (by kernel_rfl) (fun w _ => by kernel_rfl) (⟨bO45_t111.1, (hE.cell u2), bO70_t115.1⟩) ?_
            refine wd_take 2 (.pointer (some ⟨O45, 0, none⟩)) hR rfl (by kernel_rfl) rfl (by kernel_rfl) (fun w _ => by kernel_rfl) (⟨bO45_t111.1, (hE.cell u2), bO70_t115.1⟩) ?_
            refine wd_take 3 (.int .i64 (s.1 : Int)) hR rfl (by kernel_rfl) rfl (by kernel_rfl) (fun w hS => ex_load rfl (by kernel_rfl) (ld3 (hS.1))) (⟨bO45_t111.1, (hE.cell u2), bO70_t115.1⟩) ?_
            refine wd_take 4 (.slice (some ⟨b2, o2, none⟩) n2 c2) hR rfl (by kernel_rfl) rfl (by kernel_rfl) (fun w _ => by kernel_rfl) (⟨bO45_t111.1, (hE.cell u2), bO70_t115.1⟩) ?_
            refine wd_take 5 (.int .i64 (((i : Nat) : Int) : Int)) hR rfl (by kernel_rfl) rfl (by kernel_rfl) (fun w _ => by kernel_rfl) (⟨bO45_t111.1, (hE.cell u2), bO70_t115.1⟩) ?_
            refine wd_take 6 (.pointer (some ⟨b2, o2 + i * 4, none⟩)) hR rfl (by kernel_rfl) rfl (by kernel_rfl) (fun w _ => ex_index (p := .slice (some ⟨b2, o2, none⟩) n2 c2) (i := .int .i64 ((i : Nat) : Int)) rfl (by kernel_rfl) (by kernel_rfl) (ix23 (k := i) (by omega))) (⟨bO45_t111.1, (hE.cell u2), bO70_t115.1⟩) ?_
            refine wd_take 7 (.pointer (some ⟨b2, o2 + i * 4 + 2, none⟩)) hR rfl (by kernel_rfl) rfl (by kernel_rfl) (fun w _ => by kernel_rfl) (⟨bO45_t111.1, (hE.cell u2), bO70_t115.1⟩) ?_
            refine wd_take 8 (.int .i64 (q2 i 2 : Int)) hR rfl (by kernel_rfl) rfl (by kernel_rfl) (fun w hS => ex_load rfl (by kernel_rfl) (ld3 (hS.2.1))) (⟨bO45_t111.1, (hE.cell u2), bO70_t115.1⟩) ?_
            refine wd_take 9 (.int .i64 ((q2 i 2).tdiv 40 : Int)) hR rfl (by kernel_rfl) rfl (by kernel_rfl) (fun w _ => ex_bin (a := q2 i 2) (b := 40) rfl (by kernel_rfl) (by kernel_rfl) (bin_tdiv (by omega) (by have := iu2; unfold IsI at this; omega) (by have := iu2; unfold IsI at this; omega))) (⟨bO45_t111.1, (hE.cell u2), bO70_t115.1⟩) ?_
            refine wd_take 12 (.pointer (some ⟨O70, 0, none⟩)) hR rfl (by kernel_rfl) rfl (by kernel_rfl) (fun w _ => by kernel_rfl) (⟨bO45_t111.1, (hE.cell u2), bO70_t115.1⟩) ?_
            refine wd_take 13 (.agg #[.slice (some ⟨B57, 0, none⟩) 24 k59]) hR rfl (by kernel_rfl) rfl (by kernel_rfl) (fun w hS => ex_load rfl (by kernel_rfl) (ld33 (hS.2.2))) (⟨bO45_t111.1, (hE.cell u2), bO70_t115.1⟩) ?_
            refine wd_step 10 hR rfl (by kernel_rfl) (by kernel_rfl) (by kernel_rfl) (sn_call (f := 7) (args := #[.int .i64 ((q2 i 2).tdiv 40 : Int), .int .i64 2]) (by kernel_rfl) ((pickT_c ((q2 i 2).tdiv 40) 2 _ (isI_tdiv iu2 (by omega)) (by omega) (by omega)).mono ?_))
            rintro e w' ⟨rfl, rfl⟩
            refine ⟨_, rfl, ⟨bO45_t111.1, (hE.cell u2), bO70_t115.1⟩, ?_⟩
            refine wd_take 11 (.bool cl9) hR rfl (by kernel_rfl) rfl (by kernel_rfl) (fun w _ => ev_bool (show _ = Result.ok (Next.value (Value.bool (pickF ((q2 i 2).tdiv 40) 2 == (0 : Int)))) _ from by kernel_rfl) hcl9) (⟨bO45_t111.1, (hE.cell u2), bO70_t115.1⟩) ?_
            refine wd_take 14 (.agg #[.int .i64 (((i : Nat) : Int) : Int), .int .i64 (s.1 : Int), .bool cl9, .slice (some ⟨B57, 0, none⟩) 24 k59]) hR rfl (by kernel_rfl) rfl (by kernel_rfl) (fun w _ => by kernel_rfl) (⟨bO45_t111.1, (hE.cell u2), bO70_t115.1⟩) ?_
            refine wd_step 15 hR rfl (by kernel_rfl) (by kernel_rfl) (by kernel_rfl) (sn_newS (us := #[.int .i64 (((i : Nat) : Int) : Int), .int .i64 (s.1 : Int), .bool cl9, .slice (some ⟨B57, 0, none⟩) 24 k59]) (t := 49) (k := 1) (c := 1) (by kernel_rfl) ?_)
            intro O180 X181 hO hOs hb hbx
            have hzO180 := hO; have hyO180 := hOs; clear hO hOs
            have bO180_0 : BoxAt X181 O180 0 (.int .i64 (((i : Nat) : Int) : Int)) := hbx 0 _ rfl
            have bO180_1 : BoxAt X181 O180 1 (.int .i64 (s.1 : Int)) := hbx 1 _ rfl
            have bO180_2 : BoxAt X181 O180 2 (.bool cl9) := hbx 2 _ rfl
            have bO180_3 : BoxAt X181 O180 3 (.slice (some ⟨B57, 0, none⟩) 24 k59) := hbx 3 _ rfl
            clear hbx
            replace hE := hE.trans hb
            replace hX19 := hX19.trans hb
            replace ownPt100 := ownPt100.ext hb
            replace zt104 := hb.cell zt104
            replace zt105 := hb.cell zt105
            replace zt106 := hb.cell zt106
            replace zt107 := hb.cell zt107
            replace zt108 := hb.cell zt108
            replace zt109 := hb.cell zt109
            replace zt110 := hb.cell zt110
            replace bO45_t111 := BoxAt.ext hb bO45_t111
            replace bO45_t112 := BoxAt.ext hb bO45_t112
            replace hrt113 := hrt113.ext hb
            replace hrt114 := hrt114.ext hb
            replace bO70_t115 := BoxAt.ext hb bO70_t115
            replace bO70_t116 := BoxAt.ext hb bO70_t116
            replace hr83 := hr83.ext hb
            replace bO87_0 := BoxAt.ext hb bO87_0
            replace zA2 := BoxAt.ext hb zA2
            replace hAl2 := AllR.ext hAl2 hb
            replace hRd135 := Rd.ext hRd135 hb
            replace bO136_0 := BoxAt.ext hb bO136_0
            replace bO136_1 := BoxAt.ext hb bO136_1
            replace own148 := own148.ext hb
            replace bO157_0 := BoxAt.ext hb bO157_0
            replace own169 := own169.ext hb
            have hs182 := hb.size
            clear hb
            have lt183 := bO180_0.lt
            refine ⟨⟨bO45_t111.1, (hE.cell u2), bO70_t115.1⟩, ?_⟩
            have hlo184 := (own148).lt
            have hlo185 := (own169).lt
            have hbs198 := ownPt100.base
            obtain ⟨g188, cap189, w190, hrun191, own192, hgr193, hgb194, hor186⟩ := own_app1h (P := Tryz.prog) (ty := 30) pieceT (ownPt100) (Nat.le_trans hs33 (Nat.le_trans hs40 (Nat.le_trans hs43 (Nat.le_trans hs47 (Nat.le_trans hs50 (Nat.le_trans hs52 (Nat.le_trans hs55 (Nat.le_trans hs67 (Nat.le_trans hs72 (Nat.le_trans hs75 (Nat.le_trans hs77 (Nat.le_trans hs85 (Nat.le_trans hs89 (Nat.le_trans hs92 (Nat.le_trans hs94 (Nat.le_trans hs96 (Nat.le_trans hs117 (Nat.le_trans hs138 (Nat.le_trans hs151 (Nat.le_trans hs159 (Nat.le_trans hs172 (Nat.le_trans hs179 hs182)))))))))))))))))))))) (k := i) hxl (O := O180) (c := 1) (x := (⟨B57, k59, g58, k60, B81, 24, ((i : Nat) : Int), s.1, cl9⟩ : RX)) (d := [.int .i64 (((i : Nat) : Int) : Int), .int .i64 (s.1 : Int), .bool cl9, .slice (some ⟨B57, 0, none⟩) 24 k59]) (F := []) rfl (cells4 (bO180_0.1) (bO180_1.1) (bO180_2.1) (bO180_3.1)) (by simp [Value.oneCell']) ⟨rfl, rfl⟩ (fun b hb => by cases hb) (by omega) (by omega)
            refine wd_step 16 hR rfl (by kernel_rfl) (by kernel_rfl) (by kernel_rfl) (sn_eff (v := .slice (some ⟨g188, 0, none⟩) (i + 1) cap189) (w' := w190) (ex_append rfl (by kernel_rfl) (by kernel_rfl) hrun191) ?_)
            replace zt104 := cell_grownR zt104 hgb194 (own_not hbs198 (Nat.lt_of_lt_of_le lt18 (Nat.le_trans hs24 (Nat.le_trans hs28 hs31))))
            replace zt105 := cell_grownR zt105 hgb194 (own_not hbs198 (Nat.lt_of_lt_of_le lt18 (Nat.le_trans hs24 (Nat.le_trans hs28 hs31))))
            replace zt106 := cell_grownR zt106 hgb194 (own_not hbs198 (Nat.lt_of_lt_of_le lt18 (Nat.le_trans hs24 (Nat.le_trans hs28 hs31))))
            replace zt107 := cell_grownR zt107 hgb194 (own_not hbs198 (Nat.lt_of_lt_of_le lt18 (Nat.le_trans hs24 (Nat.le_trans hs28 hs31))))
            replace zt108 := cell_grownR zt108 hgb194 (own_not hbs198 (Nat.lt_of_lt_of_le lt18 (Nat.le_trans hs24 (Nat.le_trans hs28 hs31))))
            replace zt109 := cell_grownR zt109 hgb194 (own_not hbs198 (Nat.lt_of_lt_of_le lt18 (Nat.le_trans hs24 (Nat.le_trans hs28 hs31))))
            replace zt110 := cell_grownR zt110 hgb194 (own_not hbs198 (Nat.lt_of_lt_of_le lt18 (Nat.le_trans hs24 (Nat.le_trans hs28 hs31))))
            replace bO45_t111 := BoxAt.grownR bO45_t111 hgb194 (own_not2 hbP (Nat.le_trans (Nat.le_trans hs40 hs43) (Nat.le_of_eq hzO45)))
            replace bO45_t112 := BoxAt.grownR bO45_t112 hgb194 (own_not2 hbP (Nat.le_trans (Nat.le_trans hs40 hs43) (Nat.le_of_eq hzO45)))
            replace hrt113 := RowsAt.grownR hrt113 hgb194 (own_not2 hbP (Nat.le_trans (Nat.le_trans hs40 (Nat.le_trans hs43 (Nat.le_trans hs47 (Nat.le_trans hs50 (Nat.le_trans hs52 hs55))))) hn61))
            replace hrt114 := RowsAt.grownR hrt114 hgb194 (own_not2 hbP (Nat.le_trans (Nat.le_trans hs40 (Nat.le_trans hs43 (Nat.le_trans hs47 (Nat.le_trans hs50 (Nat.le_trans hs52 hs55))))) hn62))
            replace bO70_t115 := BoxAt.grownR bO70_t115 hgb194 (own_not2 hbP (Nat.le_trans (Nat.le_trans hs40 (Nat.le_trans hs43 (Nat.le_trans hs47 (Nat.le_trans hs50 (Nat.le_trans hs52 (Nat.le_trans hs55 hs67)))))) (Nat.le_of_eq hzO70)))
            replace bO70_t116 := BoxAt.grownR bO70_t116 hgb194 (own_not2 hbP (Nat.le_trans (Nat.le_trans hs40 (Nat.le_trans hs43 (Nat.le_trans hs47 (Nat.le_trans hs50 (Nat.le_trans hs52 (Nat.le_trans hs55 hs67)))))) (Nat.le_of_eq hzO70)))
            replace hr83 := RowsAt.grownR hr83 hgb194 (own_not2 hbP (Nat.le_trans (Nat.le_trans hs40 (Nat.le_trans hs43 (Nat.le_trans hs47 (Nat.le_trans hs50 (Nat.le_trans hs52 (Nat.le_trans hs55 (Nat.le_trans hs67 (Nat.le_trans hs72 (Nat.le_trans hs75 hs77))))))))) hn82))
            replace bO87_0 := BoxAt.grownR bO87_0 hgb194 (own_not2 hbP (Nat.le_trans (Nat.le_trans hs40 (Nat.le_trans hs43 (Nat.le_trans hs47 (Nat.le_trans hs50 (Nat.le_trans hs52 (Nat.le_trans hs55 (Nat.le_trans hs67 (Nat.le_trans hs72 (Nat.le_trans hs75 (Nat.le_trans hs77 hs85)))))))))) (Nat.le_of_eq hzO87)))
            replace zA2 := BoxAt.grownR zA2 hgb194 (own_not hbs198 (Nat.lt_of_lt_of_le lt29 hs31))
            replace hAl2 := AllR.grown hAl2 hgb194 hV2
            replace hRd135 := Rd.grown hRd135 hgb194 hV2
            replace bO136_0 := BoxAt.grownR bO136_0 hgb194 (own_not2 hbP (Nat.le_trans (Nat.le_trans hs40 (Nat.le_trans hs43 (Nat.le_trans hs47 (Nat.le_trans hs50 (Nat.le_trans hs52 (Nat.le_trans hs55 (Nat.le_trans hs67 (Nat.le_trans hs72 (Nat.le_trans hs75 (Nat.le_trans hs77 (Nat.le_trans hs85 (Nat.le_trans hs89 (Nat.le_trans hs92 (Nat.le_trans hs94 (Nat.le_trans hs96 hs117))))))))))))))) (Nat.le_of_eq hzO136)))
            replace bO136_1 := BoxAt.grownR bO136_1 hgb194 (own_not2 hbP (Nat.le_trans (Nat.le_trans hs40 (Nat.le_trans hs43 (Nat.le_trans hs47 (Nat.le_trans hs50 (Nat.le_trans hs52 (Nat.le_trans hs55 (Nat.le_trans hs67 (Nat.le_trans hs72 (Nat.le_trans hs75 (Nat.le_trans hs77 (Nat.le_trans hs85 (Nat.le_trans hs89 (Nat.le_trans hs92 (Nat.le_trans hs94 (Nat.le_trans hs96 hs117))))))))))))))) (Nat.le_of_eq hzO136)))
            replace own148 := OwnL.grown own148 hgb194 (⟨(hap12).kept, rx_noF _⟩)
            replace bO157_0 := BoxAt.grownR bO157_0 hgb194 (own_not2 hbP (Nat.le_trans (Nat.le_trans hs40 (Nat.le_trans hs43 (Nat.le_trans hs47 (Nat.le_trans hs50 (Nat.le_trans hs52 (Nat.le_trans hs55 (Nat.le_trans hs67 (Nat.le_trans hs72 (Nat.le_trans hs75 (Nat.le_trans hs77 (Nat.le_trans hs85 (Nat.le_trans hs89 (Nat.le_trans hs92 (Nat.le_trans hs94 (Nat.le_trans hs96 (Nat.le_trans hs117 (Nat.le_trans hs138 hs151))))))))))))))))) (Nat.le_of_eq hzO157)))
            replace own169 := OwnL.grown own169 hgb194 (⟨(hap23.symm).kept, rx_noF _⟩)
            replace bO180_0 := BoxAt.grownR bO180_0 hgb194 (own_not2 hbP (Nat.le_trans (Nat.le_trans hs40 (Nat.le_trans hs43 (Nat.le_trans hs47 (Nat.le_trans hs50 (Nat.le_trans hs52 (Nat.le_trans hs55 (Nat.le_trans hs67 (Nat.le_trans hs72 (Nat.le_trans hs75 (Nat.le_trans hs77 (Nat.le_trans hs85 (Nat.le_trans hs89 (Nat.le_trans hs92 (Nat.le_trans hs94 (Nat.le_trans hs96 (Nat.le_trans hs117 (Nat.le_trans hs138 (Nat.le_trans hs151 (Nat.le_trans hs159 (Nat.le_trans hs172 hs179)))))))))))))))))))) (Nat.le_of_eq hzO180)))
            replace bO180_1 := BoxAt.grownR bO180_1 hgb194 (own_not2 hbP (Nat.le_trans (Nat.le_trans hs40 (Nat.le_trans hs43 (Nat.le_trans hs47 (Nat.le_trans hs50 (Nat.le_trans hs52 (Nat.le_trans hs55 (Nat.le_trans hs67 (Nat.le_trans hs72 (Nat.le_trans hs75 (Nat.le_trans hs77 (Nat.le_trans hs85 (Nat.le_trans hs89 (Nat.le_trans hs92 (Nat.le_trans hs94 (Nat.le_trans hs96 (Nat.le_trans hs117 (Nat.le_trans hs138 (Nat.le_trans hs151 (Nat.le_trans hs159 (Nat.le_trans hs172 hs179)))))))))))))))))))) (Nat.le_of_eq hzO180)))
            replace bO180_2 := BoxAt.grownR bO180_2 hgb194 (own_not2 hbP (Nat.le_trans (Nat.le_trans hs40 (Nat.le_trans hs43 (Nat.le_trans hs47 (Nat.le_trans hs50 (Nat.le_trans hs52 (Nat.le_trans hs55 (Nat.le_trans hs67 (Nat.le_trans hs72 (Nat.le_trans hs75 (Nat.le_trans hs77 (Nat.le_trans hs85 (Nat.le_trans hs89 (Nat.le_trans hs92 (Nat.le_trans hs94 (Nat.le_trans hs96 (Nat.le_trans hs117 (Nat.le_trans hs138 (Nat.le_trans hs151 (Nat.le_trans hs159 (Nat.le_trans hs172 hs179)))))))))))))))))))) (Nat.le_of_eq hzO180)))
            replace bO180_3 := BoxAt.grownR bO180_3 hgb194 (own_not2 hbP (Nat.le_trans (Nat.le_trans hs40 (Nat.le_trans hs43 (Nat.le_trans hs47 (Nat.le_trans hs50 (Nat.le_trans hs52 (Nat.le_trans hs55 (Nat.le_trans hs67 (Nat.le_trans hs72 (Nat.le_trans hs75 (Nat.le_trans hs77 (Nat.le_trans hs85 (Nat.le_trans hs89 (Nat.le_trans hs92 (Nat.le_trans hs94 (Nat.le_trans hs96 (Nat.le_trans hs117 (Nat.le_trans hs138 (Nat.le_trans hs151 (Nat.le_trans hs159 (Nat.le_trans hs172 hs179)))))))))))))))))))) (Nat.le_of_eq hzO180)))
            replace hE := hgr193.ext _ hE (Nat.le_trans hs3 (Nat.le_trans hs7 (Nat.le_trans hs10 (Nat.le_trans hs12 (Nat.le_trans hs14 (Nat.le_trans hs17 (Nat.le_trans hs24 (Nat.le_trans hs28 hs31))))))))
            replace hX19 := hgr193.ext _ hX19 (Nat.le_trans hs24 (Nat.le_trans hs28 hs31))
            have hs195 := hgr193.size
            refine ⟨⟨bO45_t111.1, (hE.cell u2), bO70_t115.1⟩, ?_⟩
            have hl196 := own192.base g188 rfl; have hh197 := own192.lt g188 rfl
            have hOut187 : OutT (.slice (some ⟨g188, 0, none⟩) (i + 1) cap189) (NextT T2 B57 g58 B81) := hV2.next hbP (fun k h => Nat.lt_of_lt_of_le (hTl2 k h) (Nat.le_trans hs138 (Nat.le_trans hs151 (Nat.le_trans hs159 (Nat.le_trans hs172 (Nat.le_trans hs179 hs182)))))) hor186 ⟨(Nat.le_trans (Nat.le_trans hs40 (Nat.le_trans hs43 (Nat.le_trans hs47 (Nat.le_trans hs50 (Nat.le_trans hs52 hs55))))) hn61), (Nat.lt_of_lt_of_le lt68 (Nat.le_trans hs72 (Nat.le_trans hs75 (Nat.le_trans hs77 (Nat.le_trans hs85 (Nat.le_trans hs89 (Nat.le_trans hs92 (Nat.le_trans hs94 (Nat.le_trans hs96 (Nat.le_trans hs117 (Nat.le_trans hs138 (Nat.le_trans hs151 (Nat.le_trans hs159 (Nat.le_trans hs172 (Nat.le_trans hs179 hs182)))))))))))))))⟩ ⟨(Nat.le_trans (Nat.le_trans hs40 (Nat.le_trans hs43 (Nat.le_trans hs47 (Nat.le_trans hs50 (Nat.le_trans hs52 hs55))))) hn62), (Nat.lt_of_lt_of_le lt69 (Nat.le_trans hs72 (Nat.le_trans hs75 (Nat.le_trans hs77 (Nat.le_trans hs85 (Nat.le_trans hs89 (Nat.le_trans hs92 (Nat.le_trans hs94 (Nat.le_trans hs96 (Nat.le_trans hs117 (Nat.le_trans hs138 (Nat.le_trans hs151 (Nat.le_trans hs159 (Nat.le_trans hs172 (Nat.le_trans hs179 hs182)))))))))))))))⟩ ⟨(Nat.le_trans (Nat.le_trans hs40 (Nat.le_trans hs43 (Nat.le_trans hs47 (Nat.le_trans hs50 (Nat.le_trans hs52 (Nat.le_trans hs55 (Nat.le_trans hs67 (Nat.le_trans hs72 (Nat.le_trans hs75 hs77))))))))) hn82), (Nat.lt_of_lt_of_le lt86 (Nat.le_trans hs89 (Nat.le_trans hs92 (Nat.le_trans hs94 (Nat.le_trans hs96 (Nat.le_trans hs117 (Nat.le_trans hs138 (Nat.le_trans hs151 (Nat.le_trans hs159 (Nat.le_trans hs172 (Nat.le_trans hs179 hs182)))))))))))⟩
            replace hap12 : Apart (.slice (some ⟨g144, 0, none⟩) (i + 1) cap145) (.slice (some ⟨g188, 0, none⟩) (i + 1) cap189) := (hap12.symm.grow hor186 hlo184).symm
            replace hap23 : Apart (.slice (some ⟨g188, 0, none⟩) (i + 1) cap189) (.slice (some ⟨g165, 0, none⟩) (i + 1) cap166) := hap23.grow hor186 hlo185
            have hbk200 := own192.lt
            refine wd_take 17 (.slice (some ⟨g188, 0, none⟩) (i + 1) cap189) hR rfl (by kernel_rfl) rfl (by kernel_rfl) (fun w _ => by kernel_rfl) (⟨bO45_t111.1, (hE.cell u2), bO70_t115.1⟩) ?_
            refine wd_end hL hR hK (by kernel_rfl) ?_
            refine qw_block ?_
            refine qw_then ?_
            refine cw_clean [2, 4, 11, 12, 13, 14, 15, 16] (ws' := [(2, .slice (some ⟨b2, o2, none⟩) n2 c2), (4, .slice a4 n4 c4), (11, .slice (some ⟨O15, 0, none⟩) 2 2), (12, .slice (some ⟨g144, 0, none⟩) (i + 1) cap145), (13, .slice (some ⟨g188, 0, none⟩) (i + 1) cap189), (14, .slice (some ⟨g165, 0, none⟩) (i + 1) cap166), (15, .pointer (some ⟨O26, 0, none⟩)), (16, .int .i64 (((i : Nat) : Int) : Int))]) (by kernel_rfl) (fun L => ?_)
            refine cw_plain ?_
            refine pl_take (.int .i64 (((i : Nat) : Int) : Int)) rfl (by kernel_rfl) (by kernel_rfl) (by kernel_rfl) (by kernel_rfl) ?_
            refine pl_take (.int .i64 (((i + 1 : Nat) : Int) : Int)) rfl (by kernel_rfl) (by kernel_rfl) (by kernel_rfl) (ev_wrap (by kernel_rfl) (by omega) (by omega)) ?_
            refine pl_take (.int .i64 (((i + 1 : Nat) : Int) : Int)) rfl (by kernel_rfl) (by kernel_rfl) (by kernel_rfl) (by kernel_rfl) ?_
            refine pl_nil ?_
            refine qw_round [2, 4, 11, 12, 13, 14, 15, 16] (ws' := [(2, .slice (some ⟨b2, o2, none⟩) n2 c2), (4, .slice a4 n4 c4), (11, .slice (some ⟨O15, 0, none⟩) 2 2), (12, .slice (some ⟨g144, 0, none⟩) (i + 1) cap145), (13, .slice (some ⟨g188, 0, none⟩) (i + 1) cap189), (14, .slice (some ⟨g165, 0, none⟩) (i + 1) cap166), (15, .pointer (some ⟨O26, 0, none⟩)), (16, .int .i64 (((i + 1 : Nat) : Int) : Int))]) (by kernel_rfl) _ ?_ ⟨(i + 1), (some ⟨g144, 0, none⟩), cap145, (some ⟨g188, 0, none⟩), cap189, (some ⟨g165, 0, none⟩), cap166, (xs ++ [(⟨B57, k59, g58, k60, B81, 24, ((i : Nat) : Int), s.1, cl9⟩ : RX)]), (ys ++ [(⟨Swath.sureL o s ((((pk56 : Nat) : Int)) - 4), Swath.canL o s ((((pk56 : Nat) : Int)) - 4), Swath.showL o ((((pk56 : Nat) : Int)) - 4) (s.1 - dl) (s.2 - s.1).toNat, ((i : Nat) : Int), s.1, cl9⟩ : Top.Item)]), (NextT T2 B57 g58 B81), A2, B8, k8, rfl, rfl, (Nat.le_trans hs33 (Nat.le_trans hs40 (Nat.le_trans hs43 (Nat.le_trans hs47 (Nat.le_trans hs50 (Nat.le_trans hs52 (Nat.le_trans hs55 (Nat.le_trans hs67 (Nat.le_trans hs72 (Nat.le_trans hs75 (Nat.le_trans hs77 (Nat.le_trans hs85 (Nat.le_trans hs89 (Nat.le_trans hs92 (Nat.le_trans hs94 (Nat.le_trans hs96 (Nat.le_trans hs117 (Nat.le_trans hs138 (Nat.le_trans hs151 (Nat.le_trans hs159 (Nat.le_trans hs172 (Nat.le_trans hs179 (Nat.le_trans hs182 hs195))))))))))))))))))))))), hE, hX19, zA2, own148, own192, own169, (Rd.snoc (Rd.mono hRd135 (fun k h => .inl h)) (RdI.mk' (x := (⟨B57, k59, g58, k60, B81, 24, ((i : Nat) : Int), s.1, cl9⟩ : RX)) (y := (⟨Swath.sureL o s ((((pk56 : Nat) : Int)) - 4), Swath.canL o s ((((pk56 : Nat) : Int)) - 4), Swath.showL o ((((pk56 : Nat) : Int)) - 4) (s.1 - dl) (s.2 - s.1).toNat, ((i : Nat) : Int), s.1, cl9⟩ : Top.Item)) (RowsAt.va hrt113 (Swath.sure_valid hok _ _)) (RowsAt.va hrt114 (Swath.can_valid hok _ _)) (RowsAt.va hr83 (Swath.show_valid hok _ _ _)) rfl rfl rfl)), (AllR.mono hAl2 (fun k h => .inl h)), by omega, by omega, (by rw [List.length_append, hxl]; rfl), (Top.All.snoc hAll (by omega) hOk9), hvA2, hap12, hap13, hap23, hOut143, hOut187, hOut164, (fun h => h.elim hTO2 (fun h => h.elim (fun e => (Nat.ne_of_lt (Nat.lt_of_lt_of_le lt29 (Nat.le_trans (Nat.le_trans hs31 (Nat.le_trans hs33 (Nat.le_trans hs40 (Nat.le_trans hs43 (Nat.le_trans hs47 (Nat.le_trans hs50 (Nat.le_trans hs52 hs55))))))) hn61))) e) (fun h => h.elim (fun e => (Nat.ne_of_lt (Nat.lt_of_lt_of_le lt29 (Nat.le_trans (Nat.le_trans hs31 (Nat.le_trans hs33 (Nat.le_trans hs40 (Nat.le_trans hs43 (Nat.le_trans hs47 (Nat.le_trans hs50 (Nat.le_trans hs52 hs55))))))) hn62))) e) (fun e => (Nat.ne_of_lt (Nat.lt_of_lt_of_le lt29 (Nat.le_trans (Nat.le_trans hs31 (Nat.le_trans hs33 (Nat.le_trans hs40 (Nat.le_trans hs43 (Nat.le_trans hs47 (Nat.le_trans hs50 (Nat.le_trans hs52 (Nat.le_trans hs55 (Nat.le_trans hs67 (Nat.le_trans hs72 (Nat.le_trans hs75 hs77))))))))))) hn82))) e)))), (fun k h => h.elim (fun q => Nat.lt_of_lt_of_le (hTl2 k q) (Nat.le_trans hs138 (Nat.le_trans hs151 (Nat.le_trans hs159 (Nat.le_trans hs172 (Nat.le_trans hs179 (Nat.le_trans hs182 hs195))))))) (fun h => h.elim (fun e => e ▸ (Nat.lt_of_lt_of_le lt68 (Nat.le_trans hs72 (Nat.le_trans hs75 (Nat.le_trans hs77 (Nat.le_trans hs85 (Nat.le_trans hs89 (Nat.le_trans hs92 (Nat.le_trans hs94 (Nat.le_trans hs96 (Nat.le_trans hs117 (Nat.le_trans hs138 (Nat.le_trans hs151 (Nat.le_trans hs159 (Nat.le_trans hs172 (Nat.le_trans hs179 (Nat.le_trans hs182 hs195))))))))))))))))) (fun h => h.elim (fun e => e ▸ (Nat.lt_of_lt_of_le lt69 (Nat.le_trans hs72 (Nat.le_trans hs75 (Nat.le_trans hs77 (Nat.le_trans hs85 (Nat.le_trans hs89 (Nat.le_trans hs92 (Nat.le_trans hs94 (Nat.le_trans hs96 (Nat.le_trans hs117 (Nat.le_trans hs138 (Nat.le_trans hs151 (Nat.le_trans hs159 (Nat.le_trans hs172 (Nat.le_trans hs179 (Nat.le_trans hs182 hs195))))))))))))))))) (fun e => e ▸ (Nat.lt_of_lt_of_le lt86 (Nat.le_trans hs89 (Nat.le_trans hs92 (Nat.le_trans hs94 (Nat.le_trans hs96 (Nat.le_trans hs117 (Nat.le_trans hs138 (Nat.le_trans hs151 (Nat.le_trans hs159 (Nat.le_trans hs172 (Nat.le_trans hs179 (Nat.le_trans hs182 hs195))))))))))))))))⟩
            omega
      ·
        refine cw_seq ?_
        refine cw_seq ?_
        refine cw_plain ?_
        refine pl_take (.int .i64 (((i : Nat) : Int) : Int)) rfl (by kernel_rfl) (by kernel_rfl) (by kernel_rfl) (by kernel_rfl) ?_
        refine pl_take (.slice a2 n2 c2) rfl (by kernel_rfl) (by kernel_rfl) (by kernel_rfl) (by kernel_rfl) ?_
        refine pl_take (.int .i64 (((n2 : Nat) : Int) : Int)) rfl (by kernel_rfl) (by kernel_rfl) (by kernel_rfl) (by kernel_rfl) ?_
        refine pl_take (.bool true) rfl (by kernel_rfl) (by kernel_rfl) (by kernel_rfl) (ev_dec (show _ = Result.ok (Next.value (Value.bool (decide ((((i : Nat) : Int) : Int) < (((n2 : Nat) : Int) : Int))))) _ from by kernel_rfl) (by omega)) ?_
        refine pl_take (.bool true) rfl (by kernel_rfl) (by kernel_rfl) (by kernel_rfl) (by kernel_rfl) ?_
        refine pl_take (.int .i64 (((i : Nat) : Int) : Int)) rfl (by kernel_rfl) (by kernel_rfl) (by kernel_rfl) (by kernel_rfl) ?_
        refine pl_take (.bool false) rfl (by kernel_rfl) (by kernel_rfl) (by kernel_rfl) (ev_ndec (show _ = Result.ok (Next.value (Value.bool (decide ((((i : Nat) : Int) : Int) < (8 : Int))))) _ from by kernel_rfl) (by omega)) ?_
        refine pl_take (.bool false) rfl (by kernel_rfl) (by kernel_rfl) (by kernel_rfl) (by kernel_rfl) ?_
        refine pl_nil ?_
        refine qw_then ?_
        refine cw_clean [2, 4, 11, 12, 13, 14, 15, 16, 59] (ws' := [(2, .slice a2 n2 c2), (4, .slice a4 n4 c4), (11, .slice (some ⟨O15, 0, none⟩) 2 2), (12, .slice aS i cS), (13, .slice aP i cP), (14, .slice aR i cR), (15, .pointer (some ⟨O26, 0, none⟩)), (16, .int .i64 (((i : Nat) : Int) : Int)), (59, .bool false)]) (by kernel_rfl) (fun L => ?_)
        refine cw_f (by kernel_rfl) ?_
        refine cw_exit ?_
        refine qw_then_exit ?_
        refine qw_then_exit ?_
        refine qw_block_out ?_
        have hRd204 := hRd
        have hSt201 := own_strips9 hRd204 ownS hxl (by omega)
        have hPc202 := own_pcs9 hRd204 ownP hxl (by omega)
        have hAr203 := areasR_of hRd204 ownR hxl
        exact qw_leaf hJ [12, 13, 14, 15] (ws' := [(12, .slice aS i cS), (13, .slice aP i cP), (14, .slice aR i cR), (15, .pointer (some ⟨O26, 0, none⟩))]) (by kernel_rfl) ⟨i, aS, cS, aP, cP, aR, cR, ys, A, B9, k9, rfl, hs33, hE, hX19, zA, (hAl).va, hSt201, hPc202, hAr203, (by rw [← hRd204.len]; exact hxl), hi8, hAll, hvA, rx_cap ownP hxl⟩
    ·
      refine cw_seq ?_
      refine cw_seq ?_
      refine cw_plain ?_
      refine pl_take (.int .i64 (((i : Nat) : Int) : Int)) rfl (by kernel_rfl) (by kernel_rfl) (by kernel_rfl) (by kernel_rfl) ?_
      refine pl_take (.slice a2 n2 c2) rfl (by kernel_rfl) (by kernel_rfl) (by kernel_rfl) (by kernel_rfl) ?_
      refine pl_take (.int .i64 (((n2 : Nat) : Int) : Int)) rfl (by kernel_rfl) (by kernel_rfl) (by kernel_rfl) (by kernel_rfl) ?_
      refine pl_take (.bool false) rfl (by kernel_rfl) (by kernel_rfl) (by kernel_rfl) (ev_ndec (show _ = Result.ok (Next.value (Value.bool (decide ((((i : Nat) : Int) : Int) < (((n2 : Nat) : Int) : Int))))) _ from by kernel_rfl) (by omega)) ?_
      refine pl_take (.bool false) rfl (by kernel_rfl) (by kernel_rfl) (by kernel_rfl) (by kernel_rfl) ?_
      refine pl_skip rfl (by kernel_rfl) (by kernel_rfl) (by kernel_rfl) ?_
      refine pl_skip rfl (by kernel_rfl) (by kernel_rfl) (by kernel_rfl) ?_
      refine pl_take (.bool false) rfl (by kernel_rfl) (by kernel_rfl) (by kernel_rfl) (by kernel_rfl) ?_
      refine pl_nil ?_
      refine qw_then ?_
      refine cw_clean [2, 4, 11, 12, 13, 14, 15, 16, 59] (ws' := [(2, .slice a2 n2 c2), (4, .slice a4 n4 c4), (11, .slice (some ⟨O15, 0, none⟩) 2 2), (12, .slice aS i cS), (13, .slice aP i cP), (14, .slice aR i cR), (15, .pointer (some ⟨O26, 0, none⟩)), (16, .int .i64 (((i : Nat) : Int) : Int)), (59, .bool false)]) (by kernel_rfl) (fun L => ?_)
      refine cw_f (by kernel_rfl) ?_
      refine cw_exit ?_
      refine qw_then_exit ?_
      refine qw_then_exit ?_
      refine qw_block_out ?_
      have hRd208 := hRd
      have hSt205 := own_strips9 hRd208 ownS hxl (by omega)
      have hPc206 := own_pcs9 hRd208 ownP hxl (by omega)
      have hAr207 := areasR_of hRd208 ownR hxl
      exact qw_leaf hJ [12, 13, 14, 15] (ws' := [(12, .slice aS i cS), (13, .slice aP i cP), (14, .slice aR i cR), (15, .pointer (some ⟨O26, 0, none⟩))]) (by kernel_rfl) ⟨i, aS, cS, aP, cP, aR, cR, ys, A, B9, k9, rfl, hs33, hE, hX19, zA, (hAl).va, hSt205, hPc206, hAr207, (by rw [← hRd208.len]; exact hxl), hi8, hAll, hvA, rx_cap ownP hxl⟩
  ·
    clear hr22v bO26_0 hE hX19
    rintro L ws w209 ⟨n9, aS, cS, aP, cP, aR, cR, ys, A, B9, k9, rfl, hs32, hE, hX19, zA9, vA9, hSt9, hPc9, hAr9, hn9, hn8, hAll, hvA, hcap⟩
    have lt210 := vA9.lt
    have hX211 : Ext w209 w209 := Ext.refl _
    refine qw_then ?_
    refine cw_seq ?_
    refine cw_plain ?_
    refine pl_take (.agg #[.slice (some ⟨B9, 0, none⟩) 24 k9]) rfl (by kernel_rfl) (by kernel_rfl) (by kernel_rfl) (ex_load rfl (by kernel_rfl) (ld33 (zA9.1))) ?_
    refine pl_take (.slice aS n9 cS) rfl (by kernel_rfl) (by kernel_rfl) (by kernel_rfl) (by kernel_rfl) ?_
    refine pl_step rfl (by kernel_rfl) (by kernel_rfl) (by kernel_rfl) (sn_call (f := 12) (args := #[.agg #[.slice (some ⟨B9, 0, none⟩) 24 k9], .slice aS n9 cS]) (by kernel_rfl) ((Uncovered_v _ _ _ vA9 (Ext.refl _) hSt9 (Ext.refl _) (Top.strips_ok hAll)).mono ?_))
    rintro e w222 ⟨B212, o213, k214, B215, o216, k217, rfl, v218, v219, hn220, hn221, hb⟩
    replace hE := hE.trans hb
    replace hX19 := hX19.trans hb
    replace hX211 := hX211.trans hb
    have hs223 := hb.size
    clear hb
    have lt224 := v218.lt
    have lt225 := v219.lt
    refine ⟨_, rfl, ?_⟩
    refine pl_take (.tuple #[.agg #[.slice (some ⟨B212, o213, none⟩) 24 k214], .agg #[.slice (some ⟨B215, o216, none⟩) 24 k217], .int .i64 0]) rfl (by kernel_rfl) (by kernel_rfl) (by kernel_rfl) (by kernel_rfl) ?_
    refine pl_take (.agg #[.slice (some ⟨B212, o213, none⟩) 24 k214]) rfl (by kernel_rfl) (by kernel_rfl) (by kernel_rfl) (by kernel_rfl) ?_
    refine pl_take (.agg #[.slice (some ⟨B215, o216, none⟩) 24 k217]) rfl (by kernel_rfl) (by kernel_rfl) (by kernel_rfl) (by kernel_rfl) ?_
    refine pl_take (.int .i64 0) rfl (by kernel_rfl) (by kernel_rfl) (by kernel_rfl) (by kernel_rfl) ?_
    refine pl_step rfl (by kernel_rfl) (by kernel_rfl) (by kernel_rfl) (sn_new (us := #[.slice none 0 0]) (t := 33) (by kernel_rfl) ?_)
    intro O226 X227 hO hOs hb hbx
    have hzO226 := hO; have hyO226 := hOs; clear hO hOs
    have bO226_0 : BoxAt X227 O226 0 (.slice none 0 0) := hbx 0 _ rfl
    clear hbx
    replace hE := hE.trans hb
    replace hX19 := hX19.trans hb
    replace hX211 := hX211.trans hb
    replace v218 := v218.ext hb
    replace v219 := v219.ext hb
    have hs228 := hb.size
    clear hb
    have lt229 := bO226_0.lt
    refine pl_step rfl (by kernel_rfl) (by kernel_rfl) (by kernel_rfl) (sn_new (us := #[.slice none 0 0]) (t := 33) (by kernel_rfl) ?_)
    intro O230 X231 hO hOs hb hbx
    have hzO230 := hO; have hyO230 := hOs; clear hO hOs
    have bO230_0 : BoxAt X231 O230 0 (.slice none 0 0) := hbx 0 _ rfl
    clear hbx
    replace hE := hE.trans hb
    replace hX19 := hX19.trans hb
    replace hX211 := hX211.trans hb
    replace v218 := v218.ext hb
    replace v219 := v219.ext hb
    replace bO226_0 := BoxAt.ext hb bO226_0
    have hs232 := hb.size
    clear hb
    have lt233 := bO230_0.lt
    refine pl_put rfl (by kernel_rfl) (by kernel_rfl) (sn_set (O := O226) (j := 0) (v := .slice (some ⟨B212, o213, none⟩) 24 k214) (ex_store (p := .pointer (some ⟨O226, 0, none⟩)) (v := .agg #[.slice (some ⟨B212, o213, none⟩) 24 k214]) rfl (by kernel_rfl) (by kernel_rfl) (st33 bO226_0.1 bO226_0.2)) bO226_0 ?_)
    intro X234 ho hv0 hk
    replace hE := ho.ext hE (Nat.le_trans (Nat.le_trans hs3 (Nat.le_trans hs7 (Nat.le_trans hs10 (Nat.le_trans hs12 (Nat.le_trans hs14 (Nat.le_trans hs17 (Nat.le_trans hs24 (Nat.le_trans hs28 (Nat.le_trans hs31 (Nat.le_trans hs32 hs223)))))))))) (Nat.le_of_eq hzO226))
    replace hX19 := ho.ext hX19 (Nat.le_trans (Nat.le_trans hs24 (Nat.le_trans hs28 (Nat.le_trans hs31 (Nat.le_trans hs32 hs223)))) (Nat.le_of_eq hzO226))
    replace hX211 := ho.ext hX211 (Nat.le_trans hs223 (Nat.le_of_eq hzO226))
    replace v218 := ho.va (Nat.ne_of_gt (Nat.lt_of_lt_of_le lt224 (Nat.le_of_eq hzO226))) v218
    replace v219 := ho.va (Nat.ne_of_gt (Nat.lt_of_lt_of_le lt225 (Nat.le_of_eq hzO226))) v219
    replace bO230_0 := ho.box (Nat.ne_of_lt (Nat.lt_of_lt_of_le lt229 (Nat.le_of_eq hzO230))) bO230_0
    have hs235 : X231.heap.size ≤ X234.heap.size := Nat.le_of_eq ho.size.symm
    clear ho hk bO226_0
    have bO226_0 := hv0; clear hv0
    refine pl_put rfl (by kernel_rfl) (by kernel_rfl) (sn_set (O := O230) (j := 0) (v := .slice (some ⟨B215, o216, none⟩) 24 k217) (ex_store (p := .pointer (some ⟨O230, 0, none⟩)) (v := .agg #[.slice (some ⟨B215, o216, none⟩) 24 k217]) rfl (by kernel_rfl) (by kernel_rfl) (st33 bO230_0.1 bO230_0.2)) bO230_0 ?_)
    intro X236 ho hv0 hk
    replace hE := ho.ext hE (Nat.le_trans (Nat.le_trans hs3 (Nat.le_trans hs7 (Nat.le_trans hs10 (Nat.le_trans hs12 (Nat.le_trans hs14 (Nat.le_trans hs17 (Nat.le_trans hs24 (Nat.le_trans hs28 (Nat.le_trans hs31 (Nat.le_trans hs32 (Nat.le_trans hs223 hs228))))))))))) (Nat.le_of_eq hzO230))
    replace hX19 := ho.ext hX19 (Nat.le_trans (Nat.le_trans hs24 (Nat.le_trans hs28 (Nat.le_trans hs31 (Nat.le_trans hs32 (Nat.le_trans hs223 hs228))))) (Nat.le_of_eq hzO230))
    replace hX211 := ho.ext hX211 (Nat.le_trans (Nat.le_trans hs223 hs228) (Nat.le_of_eq hzO230))
    replace v218 := ho.va (Nat.ne_of_gt (Nat.lt_of_lt_of_le lt224 (Nat.le_trans hs228 (Nat.le_of_eq hzO230)))) v218
    replace v219 := ho.va (Nat.ne_of_gt (Nat.lt_of_lt_of_le lt225 (Nat.le_trans hs228 (Nat.le_of_eq hzO230)))) v219
    replace bO226_0 := ho.box (Nat.ne_of_gt (Nat.lt_of_lt_of_le lt229 (Nat.le_of_eq hzO230))) bO226_0
    have hs237 : X234.heap.size ≤ X236.heap.size := Nat.le_of_eq ho.size.symm
    clear ho hk bO230_0
    have bO230_0 := hv0; clear hv0
    refine pl_take (.int .i64 0) rfl (by kernel_rfl) (by kernel_rfl) (by kernel_rfl) (by kernel_rfl) ?_
    refine pl_nil ?_
    refine qw_then ?_
    refine cw_seq ?_
    refine cw_plain ?_
    refine pl_take (.agg #[.slice (some ⟨B9, 0, none⟩) 24 k9]) rfl (by kernel_rfl) (by kernel_rfl) (by kernel_rfl) (ex_load rfl (by kernel_rfl) (ld33 ((BoxAt.ext hX211 zA9).1))) ?_
    refine pl_take (.slice aP n9 cP) rfl (by kernel_rfl) (by kernel_rfl) (by kernel_rfl) (by kernel_rfl) ?_
    refine pl_step rfl (by kernel_rfl) (by kernel_rfl) (by kernel_rfl) (sn_call (f := 13) (args := #[.int .i64 1, .agg #[.slice (some ⟨B9, 0, none⟩) 24 k9], .slice aP n9 cP]) (by kernel_rfl) (((Build_c (id := 1) (l := ys.map Top.Item.pc) _ _ hcap (aa_q (vA9.aa)) hX211 hPc9 hX211 (hT.ext hE)).mono fun _ _ h => h.eq (Top.build_yes hAll hvA) rfl rfl).mono ?_))
    rintro e w252 ⟨a238, n239, k240, a241, n242, c243, rfl, hA244, hfr245, hP246, hnc247, hpl248, hb⟩
    replace hE := hE.trans hb
    replace hX19 := hX19.trans hb
    replace hX211 := hX211.trans hb
    replace v218 := v218.ext hb
    replace v219 := v219.ext hb
    replace bO226_0 := BoxAt.ext hb bO226_0
    replace bO230_0 := BoxAt.ext hb bO230_0
    have hs253 := hb.size
    clear hb
    obtain ⟨b249, o250, rfl, rfl, hV251⟩ := va_of hA244 (hvA)
    have hfr245l := hfr245 _ rfl
    have lt254 := hV251.lt
    have hP246n : PcsS (fun k => X236.heap.size ≤ k ∧ k < w252.heap.size) w252 a241 n242 (Prod.divide A (ys.map Top.Item.pc)) := PcsS.both hP246
    refine ⟨_, rfl, ?_⟩
    refine pl_take (.tuple #[.agg #[.int .i64 1, .int .i64 1, .slice (some ⟨b249, o250, none⟩) 24 k240, .slice a241 n242 c243], .int .i64 0]) rfl (by kernel_rfl) (by kernel_rfl) (by kernel_rfl) (by kernel_rfl) ?_
    refine pl_take (.agg #[.int .i64 1, .int .i64 1, .slice (some ⟨b249, o250, none⟩) 24 k240, .slice a241 n242 c243]) rfl (by kernel_rfl) (by kernel_rfl) (by kernel_rfl) (by kernel_rfl) ?_
    refine pl_take (.int .i64 0) rfl (by kernel_rfl) (by kernel_rfl) (by kernel_rfl) (by kernel_rfl) ?_
    refine pl_step rfl (by kernel_rfl) (by kernel_rfl) (by kernel_rfl) (sn_new (us := #[.int .i64 0, .int .i64 0, .slice none 0 0, .slice none 0 0]) (t := 53) (by kernel_rfl) ?_)
    intro O255 X256 hO hOs hb hbx
    have hzO255 := hO; have hyO255 := hOs; clear hO hOs
    have bO255_0 : BoxAt X256 O255 0 (.int .i64 0) := hbx 0 _ rfl
    have bO255_1 : BoxAt X256 O255 1 (.int .i64 0) := hbx 1 _ rfl
    have bO255_2 : BoxAt X256 O255 2 (.slice none 0 0) := hbx 2 _ rfl
    have bO255_3 : BoxAt X256 O255 3 (.slice none 0 0) := hbx 3 _ rfl
    clear hbx
    replace hE := hE.trans hb
    replace hX19 := hX19.trans hb
    replace hX211 := hX211.trans hb
    replace v218 := v218.ext hb
    replace v219 := v219.ext hb
    replace bO226_0 := BoxAt.ext hb bO226_0
    replace bO230_0 := BoxAt.ext hb bO230_0
    replace hV251 := hV251.ext hb
    replace hP246n := hP246n.ext hb
    have hs257 := hb.size
    clear hb
    have lt258 := bO255_0.lt
    refine pl_put rfl (by kernel_rfl) (by kernel_rfl) (sn_setK4 (O := O255) (j := 0) (v0 := .int .i64 1) (v1 := .int .i64 1) (v2 := .slice (some ⟨b249, o250, none⟩) 24 k240) (v3 := .slice a241 n242 c243) (ex_store (p := .pointer (some ⟨O255, 0, none⟩)) (v := .agg #[.int .i64 1, .int .i64 1, .slice (some ⟨b249, o250, none⟩) 24 k240, .slice a241 n242 c243]) rfl (by kernel_rfl) (by kernel_rfl) (st53 bO255_0.1 bO255_0.2 bO255_1.1 bO255_1.2 bO255_2.1 bO255_2.2 bO255_3.1 bO255_3.2)) bO255_0 bO255_1 bO255_2 bO255_3 ?_)
    intro X259 ho hv0 hv1 hv2 hv3 hk
    replace hE := ho.ext hE (Nat.le_trans (Nat.le_trans hs3 (Nat.le_trans hs7 (Nat.le_trans hs10 (Nat.le_trans hs12 (Nat.le_trans hs14 (Nat.le_trans hs17 (Nat.le_trans hs24 (Nat.le_trans hs28 (Nat.le_trans hs31 (Nat.le_trans hs32 (Nat.le_trans hs223 (Nat.le_trans hs228 (Nat.le_trans hs232 (Nat.le_trans hs235 (Nat.le_trans hs237 hs253))))))))))))))) (Nat.le_of_eq hzO255))
    replace hX19 := ho.ext hX19 (Nat.le_trans (Nat.le_trans hs24 (Nat.le_trans hs28 (Nat.le_trans hs31 (Nat.le_trans hs32 (Nat.le_trans hs223 (Nat.le_trans hs228 (Nat.le_trans hs232 (Nat.le_trans hs235 (Nat.le_trans hs237 hs253))))))))) (Nat.le_of_eq hzO255))
    replace hX211 := ho.ext hX211 (Nat.le_trans (Nat.le_trans hs223 (Nat.le_trans hs228 (Nat.le_trans hs232 (Nat.le_trans hs235 (Nat.le_trans hs237 hs253))))) (Nat.le_of_eq hzO255))
    replace v218 := ho.va (Nat.ne_of_gt (Nat.lt_of_lt_of_le lt224 (Nat.le_trans (Nat.le_trans hs228 (Nat.le_trans hs232 (Nat.le_trans hs235 (Nat.le_trans hs237 hs253)))) (Nat.le_of_eq hzO255)))) v218
    replace v219 := ho.va (Nat.ne_of_gt (Nat.lt_of_lt_of_le lt225 (Nat.le_trans (Nat.le_trans hs228 (Nat.le_trans hs232 (Nat.le_trans hs235 (Nat.le_trans hs237 hs253)))) (Nat.le_of_eq hzO255)))) v219
    replace bO226_0 := ho.box (Nat.ne_of_gt (Nat.lt_of_lt_of_le lt229 (Nat.le_trans (Nat.le_trans hs232 (Nat.le_trans hs235 (Nat.le_trans hs237 hs253))) (Nat.le_of_eq hzO255)))) bO226_0
    replace bO230_0 := ho.box (Nat.ne_of_gt (Nat.lt_of_lt_of_le lt233 (Nat.le_trans (Nat.le_trans hs235 (Nat.le_trans hs237 hs253)) (Nat.le_of_eq hzO255)))) bO230_0
    replace hV251 := ho.va (Nat.ne_of_gt (Nat.lt_of_lt_of_le lt254 (Nat.le_of_eq hzO255))) hV251
    replace hP246n := hP246n.turn ho (fun h => absurd h.2 (Nat.not_lt_of_le (Nat.le_of_eq hzO255)))
    have hs260 : X256.heap.size ≤ X259.heap.size := Nat.le_of_eq ho.size.symm
    clear ho hk bO255_0 bO255_1 bO255_2 bO255_3
    have bO255_0 := hv0; clear hv0
    have bO255_1 := hv1; clear hv1
    have bO255_2 := hv2; clear hv2
    have bO255_3 := hv3; clear hv3
    refine pl_take (.int .i64 0) rfl (by kernel_rfl) (by kernel_rfl) (by kernel_rfl) (by kernel_rfl) ?_
    refine pl_nil ?_
    refine qw_then ?_
    refine cw_clean [12, 13, 14, 15, 28, 29, 30, 31] (ws' := [(12, .slice aS n9 cS), (13, .slice aP n9 cP), (14, .slice aR n9 cR), (15, .pointer (some ⟨O26, 0, none⟩)), (28, .pointer (some ⟨O230, 0, none⟩)), (29, .int .i64 0), (30, .pointer (some ⟨O255, 0, none⟩)), (31, .int .i64 0)]) (by kernel_rfl) (fun L => ?_)
    refine cw_seq ?_
    have hPx261 := PcsS.pcs hP246n
    have hX262 : Ext X259 X259 := Ext.refl _
    refine cw_plain ?_
    refine pl_take (.agg #[.int .i64 1, .int .i64 1, .slice (some ⟨b249, o250, none⟩) 24 k240, .slice a241 n242 c243]) rfl (by kernel_rfl) (by kernel_rfl) (by kernel_rfl) (ex_load rfl (by kernel_rfl) (ld53 (bO255_0.1) (bO255_1.1) (bO255_2.1) (bO255_3.1))) ?_
    refine pl_step rfl (by kernel_rfl) (by kernel_rfl) (by kernel_rfl) (sn_call (f := 14) (args := #[.agg #[.int .i64 1, .int .i64 1, .slice (some ⟨b249, o250, none⟩) 24 k240, .slice a241 n242 c243]]) (by kernel_rfl) ((Missing_v (id := 1) (ver := 1) _ _ (by omega) (aa_q (hV251.aa)) (Ext.refl _) (hPx261) (Ext.refl _) (hT.ext hE) (Top.prod_ok hAll hvA)).mono ?_))
    rintro e w267 ⟨B263, o264, k265, rfl, hv266, hb⟩
    replace hE := hE.trans hb
    replace hX19 := hX19.trans hb
    replace hX211 := hX211.trans hb
    replace hX262 := hX262.trans hb
    have hs268 := hb.size
    clear hb
    have lt269 := hv266.lt
    refine ⟨_, rfl, ?_⟩
    refine pl_take (.tuple #[.agg #[.slice (some ⟨B263, o264, none⟩) 24 k265], .int .i64 0]) rfl (by kernel_rfl) (by kernel_rfl) (by kernel_rfl) (by kernel_rfl) ?_
    refine pl_take (.agg #[.slice (some ⟨B263, o264, none⟩) 24 k265]) rfl (by kernel_rfl) (by kernel_rfl) (by kernel_rfl) (by kernel_rfl) ?_
    refine pl_take (.int .i64 0) rfl (by kernel_rfl) (by kernel_rfl) (by kernel_rfl) (by kernel_rfl) ?_
    refine pl_step rfl (by kernel_rfl) (by kernel_rfl) (by kernel_rfl) (sn_new (us := #[.slice none 0 0]) (t := 33) (by kernel_rfl) ?_)
    intro O270 X271 hO hOs hb hbx
    have hzO270 := hO; have hyO270 := hOs; clear hO hOs
    have bO270_0 : BoxAt X271 O270 0 (.slice none 0 0) := hbx 0 _ rfl
    clear hbx
    replace hE := hE.trans hb
    replace hX19 := hX19.trans hb
    replace hX211 := hX211.trans hb
    replace hX262 := hX262.trans hb
    replace hv266 := hv266.ext hb
    have hs272 := hb.size
    clear hb
    have lt273 := bO270_0.lt
    refine pl_put rfl (by kernel_rfl) (by kernel_rfl) (sn_set (O := O270) (j := 0) (v := .slice (some ⟨B263, o264, none⟩) 24 k265) (ex_store (p := .pointer (some ⟨O270, 0, none⟩)) (v := .agg #[.slice (some ⟨B263, o264, none⟩) 24 k265]) rfl (by kernel_rfl) (by kernel_rfl) (st33 bO270_0.1 bO270_0.2)) bO270_0 ?_)
    intro X274 ho hv0 hk
    replace hE := ho.ext hE (Nat.le_trans (Nat.le_trans hs3 (Nat.le_trans hs7 (Nat.le_trans hs10 (Nat.le_trans hs12 (Nat.le_trans hs14 (Nat.le_trans hs17 (Nat.le_trans hs24 (Nat.le_trans hs28 (Nat.le_trans hs31 (Nat.le_trans hs32 (Nat.le_trans hs223 (Nat.le_trans hs228 (Nat.le_trans hs232 (Nat.le_trans hs235 (Nat.le_trans hs237 (Nat.le_trans hs253 (Nat.le_trans hs257 (Nat.le_trans hs260 hs268)))))))))))))))))) (Nat.le_of_eq hzO270))
    replace hX19 := ho.ext hX19 (Nat.le_trans (Nat.le_trans hs24 (Nat.le_trans hs28 (Nat.le_trans hs31 (Nat.le_trans hs32 (Nat.le_trans hs223 (Nat.le_trans hs228 (Nat.le_trans hs232 (Nat.le_trans hs235 (Nat.le_trans hs237 (Nat.le_trans hs253 (Nat.le_trans hs257 (Nat.le_trans hs260 hs268)))))))))))) (Nat.le_of_eq hzO270))
    replace hX211 := ho.ext hX211 (Nat.le_trans (Nat.le_trans hs223 (Nat.le_trans hs228 (Nat.le_trans hs232 (Nat.le_trans hs235 (Nat.le_trans hs237 (Nat.le_trans hs253 (Nat.le_trans hs257 (Nat.le_trans hs260 hs268)))))))) (Nat.le_of_eq hzO270))
    replace hX262 := ho.ext hX262 (Nat.le_trans hs268 (Nat.le_of_eq hzO270))
    replace hv266 := ho.va (Nat.ne_of_gt (Nat.lt_of_lt_of_le lt269 (Nat.le_of_eq hzO270))) hv266
    have hs275 : X271.heap.size ≤ X274.heap.size := Nat.le_of_eq ho.size.symm
    clear ho hk bO270_0
    have bO270_0 := hv0; clear hv0
    refine pl_take (.int .i64 0) rfl (by kernel_rfl) (by kernel_rfl) (by kernel_rfl) (by kernel_rfl) ?_
    refine pl_nil ?_
    refine qw_then ?_
    refine cw_clean [12, 13, 14, 15, 28, 29, 30, 31, 32, 33] (ws' := [(12, .slice aS n9 cS), (13, .slice aP n9 cP), (14, .slice aR n9 cR), (15, .pointer (some ⟨O26, 0, none⟩)), (28, .pointer (some ⟨O230, 0, none⟩)), (29, .int .i64 0), (30, .pointer (some ⟨O255, 0, none⟩)), (31, .int .i64 0), (32, .pointer (some ⟨O270, 0, none⟩)), (33, .int .i64 0)]) (by kernel_rfl) (fun L => ?_)
    refine cw_seq ?_
    have hX276 : Ext X274 X274 := Ext.refl _
    obtain ⟨r9, hr9⟩ : ∃ r, Globe.fewestL (Globe.enough A ((ys.map Top.Item.st).map fun s => s.1)) n9 = r := ⟨_, rfl⟩
    refine cw_plain ?_
    refine pl_take (.agg #[.slice (some ⟨B9, 0, none⟩) 24 k9]) rfl (by kernel_rfl) (by kernel_rfl) (by kernel_rfl) (ex_load rfl (by kernel_rfl) (ld33 ((BoxAt.ext hX211 zA9).1))) ?_
    refine pl_take (.slice aS n9 cS) rfl (by kernel_rfl) (by kernel_rfl) (by kernel_rfl) (by kernel_rfl) ?_
    refine pl_step rfl (by kernel_rfl) (by kernel_rfl) (by kernel_rfl) (sn_call (f := 15) (args := #[.agg #[.slice (some ⟨B9, 0, none⟩) 24 k9], .slice aS n9 cS]) (by kernel_rfl) ((Fewest_r (r := r9) _ _ _ vA9 hX211 hSt9 hX211 (Top.strips_ok hAll) (by omega) (hT.ext hE) hr9).mono ?_))
    rintro e w280 ⟨fa277, fc278, rfl, hi279, hb⟩
    replace hE := hE.trans hb
    replace hX19 := hX19.trans hb
    replace hX211 := hX211.trans hb
    replace hX262 := hX262.trans hb
    replace hX276 := hX276.trans hb
    have hs281 := hb.size
    clear hb
    have hX282 : Ext w280 w280 := Ext.refl _
    refine ⟨_, rfl, ?_⟩
    refine pl_take (.tuple #[.slice fa277 ((r9.getD []).length) fc278, .bool r9.isSome, .int .i64 0]) rfl (by kernel_rfl) (by kernel_rfl) (by kernel_rfl) (by kernel_rfl) ?_
    refine pl_take (.slice fa277 ((r9.getD []).length) fc278) rfl (by kernel_rfl) (by kernel_rfl) (by kernel_rfl) (by kernel_rfl) ?_
    refine pl_take (.bool r9.isSome) rfl (by kernel_rfl) (by kernel_rfl) (by kernel_rfl) (by kernel_rfl) ?_
    refine pl_take (.int .i64 0) rfl (by kernel_rfl) (by kernel_rfl) (by kernel_rfl) (by kernel_rfl) ?_
    refine pl_take (.slice fa277 ((r9.getD []).length) fc278) rfl (by kernel_rfl) (by kernel_rfl) (by kernel_rfl) (by kernel_rfl) ?_
    refine pl_take (.bool r9.isSome) rfl (by kernel_rfl) (by kernel_rfl) (by kernel_rfl) (by kernel_rfl) ?_
    refine pl_take (.int .i64 0) rfl (by kernel_rfl) (by kernel_rfl) (by kernel_rfl) (by kernel_rfl) ?_
    refine pl_nil ?_
    refine qw_then ?_
    refine cw_clean [13, 14, 15, 28, 29, 30, 31, 32, 33, 34, 35, 36] (ws' := [(13, .slice aP n9 cP), (14, .slice aR n9 cR), (15, .pointer (some ⟨O26, 0, none⟩)), (28, .pointer (some ⟨O230, 0, none⟩)), (29, .int .i64 0), (30, .pointer (some ⟨O255, 0, none⟩)), (31, .int .i64 0), (32, .pointer (some ⟨O270, 0, none⟩)), (33, .int .i64 0), (34, .slice fa277 ((r9.getD []).length) fc278), (35, .bool r9.isSome), (36, .int .i64 0)]) (by kernel_rfl) (fun L => ?_)
    refine cw_seq ?_
    refine cw_seq ?_
    refine cw_plain ?_
    refine pl_take (.int .i64 0) rfl (by kernel_rfl) (by kernel_rfl) (by kernel_rfl) (by kernel_rfl) ?_
    refine pl_take (.bool false) rfl (by kernel_rfl) (by kernel_rfl) (by kernel_rfl) (by kernel_rfl) ?_
    refine pl_take (.bool false) rfl (by kernel_rfl) (by kernel_rfl) (by kernel_rfl) (by kernel_rfl) ?_
    refine pl_take (.int .i64 0) rfl (by kernel_rfl) (by kernel_rfl) (by kernel_rfl) (by kernel_rfl) ?_
    refine pl_take (.bool false) rfl (by kernel_rfl) (by kernel_rfl) (by kernel_rfl) (by kernel_rfl) ?_
    refine pl_take (.bool false) rfl (by kernel_rfl) (by kernel_rfl) (by kernel_rfl) (by kernel_rfl) ?_
    refine pl_take (.bool false) rfl (by kernel_rfl) (by kernel_rfl) (by kernel_rfl) (by kernel_rfl) ?_
    refine pl_take (.int .i64 0) rfl (by kernel_rfl) (by kernel_rfl) (by kernel_rfl) (by kernel_rfl) ?_
    refine pl_take (.bool false) rfl (by kernel_rfl) (by kernel_rfl) (by kernel_rfl) (by kernel_rfl) ?_
    refine pl_take (.bool false) rfl (by kernel_rfl) (by kernel_rfl) (by kernel_rfl) (by kernel_rfl) ?_
    refine pl_take (.bool false) rfl (by kernel_rfl) (by kernel_rfl) (by kernel_rfl) (by kernel_rfl) ?_
    refine pl_take (.int .i64 0) rfl (by kernel_rfl) (by kernel_rfl) (by kernel_rfl) (by kernel_rfl) ?_
    refine pl_take (.bool false) rfl (by kernel_rfl) (by kernel_rfl) (by kernel_rfl) (by kernel_rfl) ?_
    refine pl_take (.bool false) rfl (by kernel_rfl) (by kernel_rfl) (by kernel_rfl) (by kernel_rfl) ?_
    refine pl_take (.bool false) rfl (by kernel_rfl) (by kernel_rfl) (by kernel_rfl) (by kernel_rfl) ?_
    refine pl_take (.agg #[.slice (some ⟨B263, o264, none⟩) 24 k265]) rfl (by kernel_rfl) (by kernel_rfl) (by kernel_rfl) (ex_load rfl (by kernel_rfl) (ld33 ((BoxAt.ext hX276 bO270_0).1))) ?_
    refine pl_take (.agg #[.slice (some ⟨B215, o216, none⟩) 24 k217]) rfl (by kernel_rfl) (by kernel_rfl) (by kernel_rfl) (ex_load rfl (by kernel_rfl) (ld33 ((BoxAt.ext hX262 bO230_0).1))) ?_
    refine pl_step rfl (by kernel_rfl) (by kernel_rfl) (by kernel_rfl) (sn_call (f := 16) (args := #[.agg #[.slice (some ⟨B263, o264, none⟩) 24 k265], .agg #[.slice (some ⟨B215, o216, none⟩) 24 k217]]) (by kernel_rfl) ((rSame_y _ _ _ hv266 hX276 v219 hX262 (Top.rest_left hvA)).mono ?_))
    rintro e w283 ⟨rfl, hb⟩
    replace hE := hE.trans hb
    replace hX19 := hX19.trans hb
    replace hX211 := hX211.trans hb
    replace hX262 := hX262.trans hb
    replace hX276 := hX276.trans hb
    replace hX282 := hX282.trans hb
    have hs284 := hb.size
    clear hb
    refine ⟨_, rfl, ?_⟩
    refine pl_take (.bool false) rfl (by kernel_rfl) (by kernel_rfl) (by kernel_rfl) (by kernel_rfl) ?_
    refine pl_take (.bool false) rfl (by kernel_rfl) (by kernel_rfl) (by kernel_rfl) (by kernel_rfl) ?_
    refine pl_take (.bool false) rfl (by kernel_rfl) (by kernel_rfl) (by kernel_rfl) (by kernel_rfl) ?_
    refine pl_take (.agg #[.int .i64 1, .int .i64 1, .slice (some ⟨b249, o250, none⟩) 24 k240, .slice a241 n242 c243]) rfl (by kernel_rfl) (by kernel_rfl) (by kernel_rfl) (ex_load rfl (by kernel_rfl) (ld53 ((BoxAt.ext hX262 bO255_0).1) ((BoxAt.ext hX262 bO255_1).1) ((BoxAt.ext hX262 bO255_2).1) ((BoxAt.ext hX262 bO255_3).1))) ?_
    refine pl_step rfl (by kernel_rfl) (by kernel_rfl) (by kernel_rfl) (sn_call (f := 17) (args := #[.agg #[.int .i64 1, .int .i64 1, .slice (some ⟨b249, o250, none⟩) 24 k240, .slice a241 n242 c243]]) (by kernel_rfl) ((Complete_r (r := r9.isSome) (id := 1) (ver := 1) _ _ (by omega) (aa_q (hV251.aa)) hX262 (hPx261) hX262 (hT.ext hE) (by rw [Top.complete_eq hAll hvA, hn9, hr9])).mono ?_))
    rintro e w285 ⟨rfl, hb⟩
    replace hE := hE.trans hb
    replace hX19 := hX19.trans hb
    replace hX211 := hX211.trans hb
    replace hX262 := hX262.trans hb
    replace hX276 := hX276.trans hb
    replace hX282 := hX282.trans hb
    have hs286 := hb.size
    clear hb
    refine ⟨_, rfl, ?_⟩
    refine pl_take (.bool r9.isSome) rfl (by kernel_rfl) (by kernel_rfl) (by kernel_rfl) (by kernel_rfl) ?_
    refine pl_take (.bool false) rfl (by kernel_rfl) (by kernel_rfl) (by kernel_rfl) (ev_bool (show _ = Result.ok (Next.value (Value.bool ((r9.isSome : Bool) != r9.isSome))) _ from by kernel_rfl) (bne_self_eq_false _)) ?_
    refine pl_take (.bool false) rfl (by kernel_rfl) (by kernel_rfl) (by kernel_rfl) (by kernel_rfl) ?_
    refine pl_nil ?_
    refine qw_then ?_
    refine cw_clean [13, 14, 15, 30, 32, 34, 35, 241] (ws' := [(13, .slice aP n9 cP), (14, .slice aR n9 cR), (15, .pointer (some ⟨O26, 0, none⟩)), (30, .pointer (some ⟨O255, 0, none⟩)), (32, .pointer (some ⟨O270, 0, none⟩)), (34, .slice fa277 ((r9.getD []).length) fc278), (35, .bool r9.isSome), (241, .bool false)]) (by kernel_rfl) (fun L => ?_)
    refine cw_f (by kernel_rfl) ?_
    refine cw_skip ?_
    refine qw_then ?_
    refine cw_seq ?_
    refine cw_plain ?_
    refine pl_take (.agg #[.slice (some ⟨B9, 0, none⟩) 24 k9]) rfl (by kernel_rfl) (by kernel_rfl) (by kernel_rfl) (ex_load rfl (by kernel_rfl) (ld33 ((BoxAt.ext hX211 zA9).1))) ?_
    refine pl_step rfl (by kernel_rfl) (by kernel_rfl) (by kernel_rfl) (sn_call (f := 18) (args := #[.agg #[.slice (some ⟨B9, 0, none⟩) 24 k9]]) (by kernel_rfl) ((Cells_w _ _ vA9 hX211 (hT.ext hE)).mono ?_))
    rintro e w287 ⟨xc, kc, rfl, hcs, -, hb⟩
    replace hE := hE.trans hb
    replace hX19 := hX19.trans hb
    replace hX211 := hX211.trans hb
    replace hX262 := hX262.trans hb
    replace hX276 := hX276.trans hb
    replace hX282 := hX282.trans hb
    have hs288 := hb.size
    clear hb
    have hX289 : Ext w287 w287 := Ext.refl _
    refine ⟨_, rfl, ?_⟩
    refine pl_take (.slice xc ((Globe.cellsTo A 24).length) kc) rfl (by kernel_rfl) (by kernel_rfl) (by kernel_rfl) (by kernel_rfl) ?_
    refine pl_nil ?_
    refine qw_then ?_
    refine cw_seq ?_
    refine cw_seq ?_
    refine cw_plain ?_
    refine pl_take (.int .i64 0) rfl (by kernel_rfl) (by kernel_rfl) (by kernel_rfl) (by kernel_rfl) ?_
    refine pl_nil ?_
    refine qw_then ?_
    refine cw_block ?_
    have hnC9 := cells_le9 A
    refine cw_loop [13, 14, 15, 30, 32, 34, 35, 37, 38] (fun ws' wr m => ∃ i : Nat, ws' = [(13, .slice aP n9 cP), (14, .slice aR n9 cR), (15, .pointer (some ⟨O26, 0, none⟩)), (30, .pointer (some ⟨O255, 0, none⟩)), (32, .pointer (some ⟨O270, 0, none⟩)), (34, .slice fa277 ((r9.getD []).length) fc278), (35, .bool r9.isSome), (37, .slice xc ((Globe.cellsTo A 24).length) kc), (38, .int .i64 (((i : Nat) : Int) : Int))] ∧ m = (Globe.cellsTo A 24).length - i ∧ w287.heap.size ≤ wr.heap.size ∧ Ext w wr ∧ Ext X16 wr ∧ Ext w209 wr ∧ Ext X259 wr ∧ Ext X274 wr ∧ Ext w280 wr ∧ Ext w287 wr ∧ i ≤ (Globe.cellsTo A 24).length) (ws0 := [(13, .slice aP n9 cP), (14, .slice aR n9 cR), (15, .pointer (some ⟨O26, 0, none⟩)), (30, .pointer (some ⟨O255, 0, none⟩)), (32, .pointer (some ⟨O270, 0, none⟩)), (34, .slice fa277 ((r9.getD []).length) fc278), (35, .bool r9.isSome), (37, .slice xc ((Globe.cellsTo A 24).length) kc), (38, .int .i64 0)]) (by kernel_rfl) _ ⟨0, rfl, rfl, Nat.le_refl _, hE, hX19, hX211, hX262, hX276, hX282, hX289, Nat.zero_le _⟩ ?_
    clear hE hX19 hX211 hX262 hX276 hX282 hX289
    rintro m292 L ws w291 ⟨i, rfl, rfl, hs290, hE, hX19, hX211, hX262, hX276, hX282, hX289, hi⟩
    by_cases hlt : i < (Globe.cellsTo A 24).length
    ·
      obtain ⟨cc, hcc⟩ : ∃ cc, (Globe.cellsTo A 24)[i]? = some cc := ⟨_, List.getElem?_eq_getElem hlt⟩
      have hmem := List.mem_of_getElem? hcc
      obtain ⟨hv9, hu9, hr9c⟩ := Globe.mem_cells.1 hmem
      obtain ⟨bc, rfl, hce⟩ := CellsAt.parts hcs (by omega)
      obtain ⟨d0, d1⟩ := hce i cc hcc
      have hbcl : bc < w287.heap.size := World.block_lt_of_cell? _ _ d0
      refine cw_seq ?_
      refine cw_seq ?_
      refine cw_plain ?_
      refine pl_take (.int .i64 (((i : Nat) : Int) : Int)) rfl (by kernel_rfl) (by kernel_rfl) (by kernel_rfl) (by kernel_rfl) ?_
      refine pl_take (.slice (some ⟨bc, 0, none⟩) ((Globe.cellsTo A 24).length) kc) rfl (by kernel_rfl) (by kernel_rfl) (by kernel_rfl) (by kernel_rfl) ?_
      refine pl_take (.int .i64 ((((Globe.cellsTo A 24).length : Nat) : Int) : Int)) rfl (by kernel_rfl) (by kernel_rfl) (by kernel_rfl) (by kernel_rfl) ?_
      refine pl_take (.bool true) rfl (by kernel_rfl) (by kernel_rfl) (by kernel_rfl) (ev_dec (show _ = Result.ok (Next.value (Value.bool (decide ((((i : Nat) : Int) : Int) < ((((Globe.cellsTo A 24).length : Nat) : Int) : Int))))) _ from by kernel_rfl) (by omega)) ?_
      refine pl_nil ?_
      refine qw_then ?_
      refine cw_t (by kernel_rfl) ?_
      refine cw_skip ?_
      refine qw_then ?_
      refine cw_seq ?_
      refine cw_block ?_
      refine cw_seq ?_
      rcases hf : (Prod.divide A (ys.map Top.Item.pc)).find? (fun p => hasB p.rw ((cc.1 : Nat) : Int) ((cc.2 : Nat) : Int)) with _ | x
      ·
        have hrest := Top.from_none hAll hvA hmem hf
        refine cw_draw [(some 251, [30], []), (some 252, [37], []), (some 253, [38], []), (some 254, [252, 253], [1, 2]), (some 255, [254], [3]), (some 256, [251, 255], [0, 4]), (some 250, [256], [5]), (some 257, [250], [6]), (some 258, [250], [6]), (some 39, [257], [7, 5, 0, 1, 2, 3, 4, 5, 6, 7]), (some 40, [258], [8, 9, 0, 1, 2, 3, 4, 5, 6, 7, 8, 9])] (fun w' => w'.cell? ⟨O255, 0, none⟩ = some (.int .i64 1) ∧ w'.cell? ⟨O255, 1, none⟩ = some (.int .i64 1) ∧ w'.cell? ⟨O255, 2, none⟩ = some (.slice (some ⟨b249, o250, none⟩) 24 k240) ∧ w'.cell? ⟨O255, 3, none⟩ = some (.slice a241 n242 c243) ∧ w'.cell? ⟨bc, i * 2, none⟩ = some (.int .i64 (((cc.1 : Nat) : Int) : Int)) ∧ w'.cell? ⟨bc, i * 2 + 1, none⟩ = some (.int .i64 (((cc.2 : Nat) : Int) : Int))) (by kernel_rfl) (by kernel_rfl) (by kernel_rfl) (by kernel_rfl) ((calm_then (calm_block (calm_then (calm_then (calm_block (calm_then calm_body))))))) (⟨(BoxAt.ext hX262 bO255_0).1, (BoxAt.ext hX262 bO255_1).1, (BoxAt.ext hX262 bO255_2).1, (BoxAt.ext hX262 bO255_3).1, (hX289.cell d0), (hX289.cell d1)⟩) (fun ops Q X293 hb hL hR hK => ?_)
        replace hE := hE.trans hb
        replace hX19 := hX19.trans hb
        replace hX211 := hX211.trans hb
        replace hX262 := hX262.trans hb
        replace hX276 := hX276.trans hb
        replace hX282 := hX282.trans hb
        replace hX289 := hX289.trans hb
        have hs294 := hb.size
        clear hb
        refine wd_take 0 (.agg #[.int .i64 1, .int .i64 1, .slice (some ⟨b249, o250, none⟩) 24 k240, .slice a241 n242 c243]) hR rfl (by kernel_rfl) rfl (by kernel_rfl) (fun w hS => ex_load rfl (by kernel_rfl) (ld53 (hS.1) (hS.2.1) (hS.2.2.1) (hS.2.2.2.1))) (⟨(BoxAt.ext hX262 bO255_0).1, (BoxAt.ext hX262 bO255_1).1, (BoxAt.ext hX262 bO255_2).1, (BoxAt.ext hX262 bO255_3).1, (hX289.cell d0), (hX289.cell d1)⟩) ?_
        refine wd_take 1 (.slice (some ⟨bc, 0, none⟩) ((Globe.cellsTo A 24).length) kc) hR rfl (by kernel_rfl) rfl (by kernel_rfl) (fun w _ => by kernel_rfl) (⟨(BoxAt.ext hX262 bO255_0).1, (BoxAt.ext hX262 bO255_1).1, (BoxAt.ext hX262 bO255_2).1, (BoxAt.ext hX262 bO255_3).1, (hX289.cell d0), (hX289.cell d1)⟩) ?_
        refine wd_take 2 (.int .i64 (((i : Nat) : Int) : Int)) hR rfl (by kernel_rfl) rfl (by kernel_rfl) (fun w _ => by kernel_rfl) (⟨(BoxAt.ext hX262 bO255_0).1, (BoxAt.ext hX262 bO255_1).1, (BoxAt.ext hX262 bO255_2).1, (BoxAt.ext hX262 bO255_3).1, (hX289.cell d0), (hX289.cell d1)⟩) ?_
        refine wd_take 3 (.pointer (some ⟨bc, i * 2, none⟩)) hR rfl (by kernel_rfl) rfl (by kernel_rfl) (fun w _ => ex_index (p := .slice (some ⟨bc, 0, none⟩) ((Globe.cellsTo A 24).length) kc) (i := .int .i64 ((i : Nat) : Int)) rfl (by kernel_rfl) (by kernel_rfl) (ix60z (k := i) (by omega))) (⟨(BoxAt.ext hX262 bO255_0).1, (BoxAt.ext hX262 bO255_1).1, (BoxAt.ext hX262 bO255_2).1, (BoxAt.ext hX262 bO255_3).1, (hX289.cell d0), (hX289.cell d1)⟩) ?_
        refine wd_take 4 (.agg #[.int .i64 (((cc.1 : Nat) : Int) : Int), .int .i64 (((cc.2 : Nat) : Int) : Int)]) hR rfl (by kernel_rfl) rfl (by kernel_rfl) (fun w hS => ex_load rfl (by kernel_rfl) (ld65 (hS.2.2.2.2.1) (hS.2.2.2.2.2))) (⟨(BoxAt.ext hX262 bO255_0).1, (BoxAt.ext hX262 bO255_1).1, (BoxAt.ext hX262 bO255_2).1, (BoxAt.ext hX262 bO255_3).1, (hX289.cell d0), (hX289.cell d1)⟩) ?_
        refine wd_step 5 hR rfl (by kernel_rfl) (by kernel_rfl) (by kernel_rfl) (sn_call (f := 19) (args := #[.agg #[.int .i64 1, .int .i64 1, .slice (some ⟨b249, o250, none⟩) 24 k240, .slice a241 n242 c243], .agg #[.int .i64 (((cc.1 : Nat) : Int) : Int), .int .i64 (((cc.2 : Nat) : Int) : Int)]]) (by kernel_rfl) ((From_n (id := 1) (ver := 1) (u := ((cc.1 : Nat) : Int)) (v := ((cc.2 : Nat) : Int)) _ _ (by omega) (aa_q (hV251.aa)) hX262 (hPx261) hX262 (hT.ext hE) (Top.prod_ok hAll hvA) hf).mono ?_))
        rintro e w295 ⟨rfl, hb⟩
        replace hE := hE.trans hb
        replace hX19 := hX19.trans hb
        replace hX211 := hX211.trans hb
        replace hX262 := hX262.trans hb
        replace hX276 := hX276.trans hb
        replace hX282 := hX282.trans hb
        replace hX289 := hX289.trans hb
        have hs296 := hb.size
        clear hb
        refine ⟨_, rfl, ⟨(BoxAt.ext hX262 bO255_0).1, (BoxAt.ext hX262 bO255_1).1, (BoxAt.ext hX262 bO255_2).1, (BoxAt.ext hX262 bO255_3).1, (hX289.cell d0), (hX289.cell d1)⟩, ?_⟩
        refine wd_take 6 (.tuple #[.int .i64 0, .bool false]) hR rfl (by kernel_rfl) rfl (by kernel_rfl) (fun w _ => by kernel_rfl) (⟨(BoxAt.ext hX262 bO255_0).1, (BoxAt.ext hX262 bO255_1).1, (BoxAt.ext hX262 bO255_2).1, (BoxAt.ext hX262 bO255_3).1, (hX289.cell d0), (hX289.cell d1)⟩) ?_
        refine wd_take 7 (.int .i64 0) hR rfl (by kernel_rfl) rfl (by kernel_rfl) (fun w _ => by kernel_rfl) (⟨(BoxAt.ext hX262 bO255_0).1, (BoxAt.ext hX262 bO255_1).1, (BoxAt.ext hX262 bO255_2).1, (BoxAt.ext hX262 bO255_3).1, (hX289.cell d0), (hX289.cell d1)⟩) ?_
        refine wd_take 8 (.bool false) hR rfl (by kernel_rfl) rfl (by kernel_rfl) (fun w _ => by kernel_rfl) (⟨(BoxAt.ext hX262 bO255_0).1, (BoxAt.ext hX262 bO255_1).1, (BoxAt.ext hX262 bO255_2).1, (BoxAt.ext hX262 bO255_3).1, (hX289.cell d0), (hX289.cell d1)⟩) ?_
        refine wd_take 9 (.int .i64 0) hR rfl (by kernel_rfl) rfl (by kernel_rfl) (fun w _ => by kernel_rfl) (⟨(BoxAt.ext hX262 bO255_0).1, (BoxAt.ext hX262 bO255_1).1, (BoxAt.ext hX262 bO255_2).1, (BoxAt.ext hX262 bO255_3).1, (hX289.cell d0), (hX289.cell d1)⟩) ?_
        refine wd_take 10 (.bool false) hR rfl (by kernel_rfl) rfl (by kernel_rfl) (fun w _ => by kernel_rfl) (⟨(BoxAt.ext hX262 bO255_0).1, (BoxAt.ext hX262 bO255_1).1, (BoxAt.ext hX262 bO255_2).1, (BoxAt.ext hX262 bO255_3).1, (hX289.cell d0), (hX289.cell d1)⟩) ?_
        refine wd_end hL hR hK (by kernel_rfl) ?_
        refine qw_then ?_
        refine cw_clean [13, 14, 15, 30, 32, 34, 35, 37, 38, 39, 40] (ws' := [(13, .slice aP n9 cP), (14, .slice aR n9 cR), (15, .pointer (some ⟨O26, 0, none⟩)), (30, .pointer (some ⟨O255, 0, none⟩)), (32, .pointer (some ⟨O270, 0, none⟩)), (34, .slice fa277 ((r9.getD []).length) fc278), (35, .bool r9.isSome), (37, .slice (some ⟨bc, 0, none⟩) ((Globe.cellsTo A 24).length) kc), (38, .int .i64 (((i : Nat) : Int) : Int)), (39, .int .i64 0), (40, .bool false)]) (by kernel_rfl) (fun L => ?_)
        refine cw_seq ?_
        refine cw_seq ?_
        refine cw_draw [(some 259, [40], []), (some 260, [32], []), (some 261, [37], []), (some 262, [38], []), (some 263, [261, 262], [2, 3]), (some 264, [263], [4]), (some 265, [260, 264], [1, 5]), (some 266, [259, 265], [0, 6]), (some 267, [266], [7, 6]), (some 268, [40, 267], [8]), (some 269, [268, 267], [9, 8, 8]), (some 270, [39, 269], [10]), (some 271, [270, 269], [11, 10]), (some 272, [271, 269], [12, 10, 10]), (some 273, [39, 272], [13]), (some 274, [14, 272], [13]), (some 275, [274, 272], [15, 13]), (some 276, [273, 275, 272], [14, 16, 13]), (some 277, [272, 276, 269], [13, 17, 10]), (some 278, [269, 277, 267], [10, 18, 8]), (some 279, [267, 278], [8, 19])] (fun w' => w'.cell? ⟨O270, 0, none⟩ = some (.slice (some ⟨B263, o264, none⟩) 24 k265) ∧ w'.cell? ⟨bc, i * 2, none⟩ = some (.int .i64 (((cc.1 : Nat) : Int) : Int)) ∧ w'.cell? ⟨bc, i * 2 + 1, none⟩ = some (.int .i64 (((cc.2 : Nat) : Int) : Int))) (by kernel_rfl) (by kernel_rfl) (by kernel_rfl) (by kernel_rfl) ((calm_then (calm_then (calm_block (calm_then (calm_then (calm_block (calm_then calm_body)))))))) (⟨(BoxAt.ext hX276 bO270_0).1, (hX289.cell d0), (hX289.cell d1)⟩) (fun ops Q X297 hb hL hR hK => ?_)
        replace hE := hE.trans hb
        replace hX19 := hX19.trans hb
        replace hX211 := hX211.trans hb
        replace hX262 := hX262.trans hb
        replace hX276 := hX276.trans hb
        replace hX282 := hX282.trans hb
        replace hX289 := hX289.trans hb
        have hs298 := hb.size
        clear hb
        refine wd_take 0 (.bool false) hR rfl (by kernel_rfl) rfl (by kernel_rfl) (fun w _ => by kernel_rfl) (⟨(BoxAt.ext hX276 bO270_0).1, (hX289.cell d0), (hX289.cell d1)⟩) ?_
        refine wd_take 1 (.agg #[.slice (some ⟨B263, o264, none⟩) 24 k265]) hR rfl (by kernel_rfl) rfl (by kernel_rfl) (fun w hS => ex_load rfl (by kernel_rfl) (ld33 (hS.1))) (⟨(BoxAt.ext hX276 bO270_0).1, (hX289.cell d0), (hX289.cell d1)⟩) ?_
        refine wd_take 2 (.slice (some ⟨bc, 0, none⟩) ((Globe.cellsTo A 24).length) kc) hR rfl (by kernel_rfl) rfl (by kernel_rfl) (fun w _ => by kernel_rfl) (⟨(BoxAt.ext hX276 bO270_0).1, (hX289.cell d0), (hX289.cell d1)⟩) ?_
        refine wd_take 3 (.int .i64 (((i : Nat) : Int) : Int)) hR rfl (by kernel_rfl) rfl (by kernel_rfl) (fun w _ => by kernel_rfl) (⟨(BoxAt.ext hX276 bO270_0).1, (hX289.cell d0), (hX289.cell d1)⟩) ?_
        refine wd_take 4 (.pointer (some ⟨bc, i * 2, none⟩)) hR rfl (by kernel_rfl) rfl (by kernel_rfl) (fun w _ => ex_index (p := .slice (some ⟨bc, 0, none⟩) ((Globe.cellsTo A 24).length) kc) (i := .int .i64 ((i : Nat) : Int)) rfl (by kernel_rfl) (by kernel_rfl) (ix60z (k := i) (by omega))) (⟨(BoxAt.ext hX276 bO270_0).1, (hX289.cell d0), (hX289.cell d1)⟩) ?_
        refine wd_take 5 (.agg #[.int .i64 (((cc.1 : Nat) : Int) : Int), .int .i64 (((cc.2 : Nat) : Int) : Int)]) hR rfl (by kernel_rfl) rfl (by kernel_rfl) (fun w hS => ex_load rfl (by kernel_rfl) (ld65 (hS.2.1) (hS.2.2))) (⟨(BoxAt.ext hX276 bO270_0).1, (hX289.cell d0), (hX289.cell d1)⟩) ?_
        refine wd_step 6 hR rfl (by kernel_rfl) (by kernel_rfl) (by kernel_rfl) (sn_call (f := 20) (args := #[.agg #[.slice (some ⟨B263, o264, none⟩) 24 k265], .agg #[.int .i64 (((cc.1 : Nat) : Int) : Int), .int .i64 (((cc.2 : Nat) : Int) : Int)]]) (by kernel_rfl) ((Has_q (r := true) _ _ hv266.aa hX276 (by rw [hasB_nat (Prod.rest_valid _ hvA) hu9 hv9]; exact hrest)).mono ?_))
        rintro e w299 ⟨rfl, hb⟩
        replace hE := hE.trans hb
        replace hX19 := hX19.trans hb
        replace hX211 := hX211.trans hb
        replace hX262 := hX262.trans hb
        replace hX276 := hX276.trans hb
        replace hX282 := hX282.trans hb
        replace hX289 := hX289.trans hb
        have hs300 := hb.size
        clear hb
        refine ⟨_, rfl, ⟨(BoxAt.ext hX276 bO270_0).1, (hX289.cell d0), (hX289.cell d1)⟩, ?_⟩
        refine wd_take 7 (.bool false) hR rfl (by kernel_rfl) rfl (by kernel_rfl) (fun w _ => by kernel_rfl) (⟨(BoxAt.ext hX276 bO270_0).1, (hX289.cell d0), (hX289.cell d1)⟩) ?_
        refine wd_take 8 (.bool false) hR rfl (by kernel_rfl) rfl (by kernel_rfl) (fun w _ => by kernel_rfl) (⟨(BoxAt.ext hX276 bO270_0).1, (hX289.cell d0), (hX289.cell d1)⟩) ?_
        refine wd_take 9 (.bool false) hR rfl (by kernel_rfl) rfl (by kernel_rfl) (fun w _ => by kernel_rfl) (⟨(BoxAt.ext hX276 bO270_0).1, (hX289.cell d0), (hX289.cell d1)⟩) ?_
        refine wd_take 10 (.bool false) hR rfl (by kernel_rfl) rfl (by kernel_rfl) (fun w _ => by kernel_rfl) (⟨(BoxAt.ext hX276 bO270_0).1, (hX289.cell d0), (hX289.cell d1)⟩) ?_
        refine wd_skip 11 hR rfl (by kernel_rfl) rfl (by kernel_rfl) (⟨(BoxAt.ext hX276 bO270_0).1, (hX289.cell d0), (hX289.cell d1)⟩) ?_
        refine wd_skip 12 hR rfl (by kernel_rfl) rfl (by kernel_rfl) (⟨(BoxAt.ext hX276 bO270_0).1, (hX289.cell d0), (hX289.cell d1)⟩) ?_
        refine wd_skip 13 hR rfl (by kernel_rfl) rfl (by kernel_rfl) (⟨(BoxAt.ext hX276 bO270_0).1, (hX289.cell d0), (hX289.cell d1)⟩) ?_
        refine wd_skip 14 hR rfl (by kernel_rfl) rfl (by kernel_rfl) (⟨(BoxAt.ext hX276 bO270_0).1, (hX289.cell d0), (hX289.cell d1)⟩) ?_
        refine wd_skip 15 hR rfl (by kernel_rfl) rfl (by kernel_rfl) (⟨(BoxAt.ext hX276 bO270_0).1, (hX289.cell d0), (hX289.cell d1)⟩) ?_
        refine wd_skip 16 hR rfl (by kernel_rfl) rfl (by kernel_rfl) (⟨(BoxAt.ext hX276 bO270_0).1, (hX289.cell d0), (hX289.cell d1)⟩) ?_
        refine wd_skip 17 hR rfl (by kernel_rfl) rfl (by kernel_rfl) (⟨(BoxAt.ext hX276 bO270_0).1, (hX289.cell d0), (hX289.cell d1)⟩) ?_
        refine wd_skip 18 hR rfl (by kernel_rfl) rfl (by kernel_rfl) (⟨(BoxAt.ext hX276 bO270_0).1, (hX289.cell d0), (hX289.cell d1)⟩) ?_
        refine wd_take 19 (.bool false) hR rfl (by kernel_rfl) rfl (by kernel_rfl) (fun w _ => by kernel_rfl) (⟨(BoxAt.ext hX276 bO270_0).1, (hX289.cell d0), (hX289.cell d1)⟩) ?_
        refine wd_take 20 (.bool false) hR rfl (by kernel_rfl) rfl (by kernel_rfl) (fun w _ => by kernel_rfl) (⟨(BoxAt.ext hX276 bO270_0).1, (hX289.cell d0), (hX289.cell d1)⟩) ?_
        refine wd_end hL hR hK (by kernel_rfl) ?_
        refine qw_then ?_
        refine cw_clean [13, 14, 15, 30, 32, 34, 35, 37, 38, 39, 40, 279] (ws' := [(13, .slice aP n9 cP), (14, .slice aR n9 cR), (15, .pointer (some ⟨O26, 0, none⟩)), (30, .pointer (some ⟨O255, 0, none⟩)), (32, .pointer (some ⟨O270, 0, none⟩)), (34, .slice fa277 ((r9.getD []).length) fc278), (35, .bool r9.isSome), (37, .slice (some ⟨bc, 0, none⟩) ((Globe.cellsTo A 24).length) kc), (38, .int .i64 (((i : Nat) : Int) : Int)), (39, .int .i64 0), (40, .bool false), (279, .bool false)]) (by kernel_rfl) (fun L => ?_)
        refine cw_f (by kernel_rfl) ?_
        refine cw_skip ?_
        refine qw_then ?_
        refine cw_seq ?_
        refine cw_draw [(some 280, [40], []), (some 281, [280], [0]), (some 282, [14, 281], [1]), (some 283, [39, 281], [1]), (some 284, [14, 281], [1]), (some 285, [284, 281], [4, 1]), (some 286, [285, 281], [5, 1]), (some 287, [283, 286, 281], [3, 6, 1]), (some 288, [287, 281], [7, 1]), (some 289, [282, 288, 281], [2, 8, 1]), (some 290, [289, 281], [9, 1]), (some 291, [37, 281], [1]), (some 292, [38, 281], [1]), (some 293, [291, 292, 281], [11, 12, 1]), (some 294, [293, 281], [13, 1]), (some 295, [290, 294, 281], [10, 14, 1, 1]), (some 296, [295, 281], [15, 1]), (some 297, [281, 296], [1, 16])] (fun w' => True) (by kernel_rfl) (by kernel_rfl) (by kernel_rfl) (by kernel_rfl) ((calm_then (calm_block (calm_then (calm_then (calm_block (calm_then calm_body))))))) (trivial) (fun ops Q X301 hb hL hR hK => ?_)
        replace hE := hE.trans hb
        replace hX19 := hX19.trans hb
        replace hX211 := hX211.trans hb
        replace hX262 := hX262.trans hb
        replace hX276 := hX276.trans hb
        replace hX282 := hX282.trans hb
        replace hX289 := hX289.trans hb
        have hs302 := hb.size
        clear hb
        refine wd_take 0 (.bool false) hR rfl (by kernel_rfl) rfl (by kernel_rfl) (fun w _ => by kernel_rfl) (trivial) ?_
        refine wd_take 1 (.bool false) hR rfl (by kernel_rfl) rfl (by kernel_rfl) (fun w _ => by kernel_rfl) (trivial) ?_
        refine wd_skip 2 hR rfl (by kernel_rfl) rfl (by kernel_rfl) (trivial) ?_
        refine wd_skip 3 hR rfl (by kernel_rfl) rfl (by kernel_rfl) (trivial) ?_
        refine wd_skip 4 hR rfl (by kernel_rfl) rfl (by kernel_rfl) (trivial) ?_
        refine wd_skip 5 hR rfl (by kernel_rfl) rfl (by kernel_rfl) (trivial) ?_
        refine wd_skip 6 hR rfl (by kernel_rfl) rfl (by kernel_rfl) (trivial) ?_
        refine wd_skip 7 hR rfl (by kernel_rfl) rfl (by kernel_rfl) (trivial) ?_
        refine wd_skip 8 hR rfl (by kernel_rfl) rfl (by kernel_rfl) (trivial) ?_
        refine wd_skip 9 hR rfl (by kernel_rfl) rfl (by kernel_rfl) (trivial) ?_
        refine wd_skip 10 hR rfl (by kernel_rfl) rfl (by kernel_rfl) (trivial) ?_
        refine wd_skip 11 hR rfl (by kernel_rfl) rfl (by kernel_rfl) (trivial) ?_
        refine wd_skip 12 hR rfl (by kernel_rfl) rfl (by kernel_rfl) (trivial) ?_
        refine wd_skip 13 hR rfl (by kernel_rfl) rfl (by kernel_rfl) (trivial) ?_
        refine wd_skip 14 hR rfl (by kernel_rfl) rfl (by kernel_rfl) (trivial) ?_
        refine wd_skip 15 hR rfl (by kernel_rfl) rfl (by kernel_rfl) (trivial) ?_
        refine wd_skip 16 hR rfl (by kernel_rfl) rfl (by kernel_rfl) (trivial) ?_
        refine wd_take 17 (.bool false) hR rfl (by kernel_rfl) rfl (by kernel_rfl) (fun w _ => by kernel_rfl) (trivial) ?_
        refine wd_end hL hR hK (by kernel_rfl) ?_
        refine qw_then ?_
        refine cw_clean [13, 14, 15, 30, 32, 34, 35, 37, 38, 297] (ws' := [(13, .slice aP n9 cP), (14, .slice aR n9 cR), (15, .pointer (some ⟨O26, 0, none⟩)), (30, .pointer (some ⟨O255, 0, none⟩)), (32, .pointer (some ⟨O270, 0, none⟩)), (34, .slice fa277 ((r9.getD []).length) fc278), (35, .bool r9.isSome), (37, .slice (some ⟨bc, 0, none⟩) ((Globe.cellsTo A 24).length) kc), (38, .int .i64 (((i : Nat) : Int) : Int)), (297, .bool false)]) (by kernel_rfl) (fun L => ?_)
        refine cw_f (by kernel_rfl) ?_
        refine cw_skip ?_
        refine qw_block ?_
        refine qw_then ?_
        refine cw_plain ?_
        refine pl_take (.int .i64 (((i : Nat) : Int) : Int)) rfl (by kernel_rfl) (by kernel_rfl) (by kernel_rfl) (by kernel_rfl) ?_
        refine pl_take (.int .i64 (((i + 1 : Nat) : Int) : Int)) rfl (by kernel_rfl) (by kernel_rfl) (by kernel_rfl) (ev_wrap (by kernel_rfl) (by omega) (by omega)) ?_
        refine pl_take (.int .i64 (((i + 1 : Nat) : Int) : Int)) rfl (by kernel_rfl) (by kernel_rfl) (by kernel_rfl) (by kernel_rfl) ?_
        refine pl_nil ?_
        refine qw_round [13, 14, 15, 30, 32, 34, 35, 37, 38] (ws' := [(13, .slice aP n9 cP), (14, .slice aR n9 cR), (15, .pointer (some ⟨O26, 0, none⟩)), (30, .pointer (some ⟨O255, 0, none⟩)), (32, .pointer (some ⟨O270, 0, none⟩)), (34, .slice fa277 ((r9.getD []).length) fc278), (35, .bool r9.isSome), (37, .slice (some ⟨bc, 0, none⟩) ((Globe.cellsTo A 24).length) kc), (38, .int .i64 (((i + 1 : Nat) : Int) : Int))]) (by kernel_rfl) _ ?_ ⟨(i + 1), rfl, rfl, (Nat.le_trans hs290 (Nat.le_trans hs294 (Nat.le_trans hs296 (Nat.le_trans hs298 (Nat.le_trans hs300 hs302))))), hE, hX19, hX211, hX262, hX276, hX282, hX289, by omega⟩
        omega
      ·
        obtain ⟨hrest, kk, yk, hyk, him, hkk, hre⟩ := Top.from_some hAll hvA hmem hf
        obtain ⟨gR, rfl, hgR⟩ := hAr9.resolve_left (by omega)
        obtain ⟨xr, xc9, xv9⟩ := hgR kk yk hyk
        have xl9 := xv9.lt
        refine cw_draw [(some 251, [30], []), (some 252, [37], []), (some 253, [38], []), (some 254, [252, 253], [1, 2]), (some 255, [254], [3]), (some 256, [251, 255], [0, 4]), (some 250, [256], [5]), (some 257, [250], [6]), (some 258, [250], [6]), (some 39, [257], [7, 5, 0, 1, 2, 3, 4, 5, 6, 7]), (some 40, [258], [8, 9, 0, 1, 2, 3, 4, 5, 6, 7, 8, 9])] (fun w' => w'.cell? ⟨O255, 0, none⟩ = some (.int .i64 1) ∧ w'.cell? ⟨O255, 1, none⟩ = some (.int .i64 1) ∧ w'.cell? ⟨O255, 2, none⟩ = some (.slice (some ⟨b249, o250, none⟩) 24 k240) ∧ w'.cell? ⟨O255, 3, none⟩ = some (.slice a241 n242 c243) ∧ w'.cell? ⟨bc, i * 2, none⟩ = some (.int .i64 (((cc.1 : Nat) : Int) : Int)) ∧ w'.cell? ⟨bc, i * 2 + 1, none⟩ = some (.int .i64 (((cc.2 : Nat) : Int) : Int))) (by kernel_rfl) (by kernel_rfl) (by kernel_rfl) (by kernel_rfl) ((calm_then (calm_block (calm_then (calm_then (calm_block (calm_then calm_body))))))) (⟨(BoxAt.ext hX262 bO255_0).1, (BoxAt.ext hX262 bO255_1).1, (BoxAt.ext hX262 bO255_2).1, (BoxAt.ext hX262 bO255_3).1, (hX289.cell d0), (hX289.cell d1)⟩) (fun ops Q X303 hb hL hR hK => ?_)
        replace hE := hE.trans hb
        replace hX19 := hX19.trans hb
        replace hX211 := hX211.trans hb
        replace hX262 := hX262.trans hb
        replace hX276 := hX276.trans hb
        replace hX282 := hX282.trans hb
        replace hX289 := hX289.trans hb
        have hs304 := hb.size
        clear hb
        refine wd_take 0 (.agg #[.int .i64 1, .int .i64 1, .slice (some ⟨b249, o250, none⟩) 24 k240, .slice a241 n242 c243]) hR rfl (by kernel_rfl) rfl (by kernel_rfl) (fun w hS => ex_load rfl (by kernel_rfl) (ld53 (hS.1) (hS.2.1) (hS.2.2.1) (hS.2.2.2.1))) (⟨(BoxAt.ext hX262 bO255_0).1, (BoxAt.ext hX262 bO255_1).1, (BoxAt.ext hX262 bO255_2).1, (BoxAt.ext hX262 bO255_3).1, (hX289.cell d0), (hX289.cell d1)⟩) ?_
        refine wd_take 1 (.slice (some ⟨bc, 0, none⟩) ((Globe.cellsTo A 24).length) kc) hR rfl (by kernel_rfl) rfl (by kernel_rfl) (fun w _ => by kernel_rfl) (⟨(BoxAt.ext hX262 bO255_0).1, (BoxAt.ext hX262 bO255_1).1, (BoxAt.ext hX262 bO255_2).1, (BoxAt.ext hX262 bO255_3).1, (hX289.cell d0), (hX289.cell d1)⟩) ?_
        refine wd_take 2 (.int .i64 (((i : Nat) : Int) : Int)) hR rfl (by kernel_rfl) rfl (by kernel_rfl) (fun w _ => by kernel_rfl) (⟨(BoxAt.ext hX262 bO255_0).1, (BoxAt.ext hX262 bO255_1).1, (BoxAt.ext hX262 bO255_2).1, (BoxAt.ext hX262 bO255_3).1, (hX289.cell d0), (hX289.cell d1)⟩) ?_
        refine wd_take 3 (.pointer (some ⟨bc, i * 2, none⟩)) hR rfl (by kernel_rfl) rfl (by kernel_rfl) (fun w _ => ex_index (p := .slice (some ⟨bc, 0, none⟩) ((Globe.cellsTo A 24).length) kc) (i := .int .i64 ((i : Nat) : Int)) rfl (by kernel_rfl) (by kernel_rfl) (ix60z (k := i) (by omega))) (⟨(BoxAt.ext hX262 bO255_0).1, (BoxAt.ext hX262 bO255_1).1, (BoxAt.ext hX262 bO255_2).1, (BoxAt.ext hX262 bO255_3).1, (hX289.cell d0), (hX289.cell d1)⟩) ?_
        refine wd_take 4 (.agg #[.int .i64 (((cc.1 : Nat) : Int) : Int), .int .i64 (((cc.2 : Nat) : Int) : Int)]) hR rfl (by kernel_rfl) rfl (by kernel_rfl) (fun w hS => ex_load rfl (by kernel_rfl) (ld65 (hS.2.2.2.2.1) (hS.2.2.2.2.2))) (⟨(BoxAt.ext hX262 bO255_0).1, (BoxAt.ext hX262 bO255_1).1, (BoxAt.ext hX262 bO255_2).1, (BoxAt.ext hX262 bO255_3).1, (hX289.cell d0), (hX289.cell d1)⟩) ?_
        refine wd_step 5 hR rfl (by kernel_rfl) (by kernel_rfl) (by kernel_rfl) (sn_call (f := 19) (args := #[.agg #[.int .i64 1, .int .i64 1, .slice (some ⟨b249, o250, none⟩) 24 k240, .slice a241 n242 c243], .agg #[.int .i64 (((cc.1 : Nat) : Int) : Int), .int .i64 (((cc.2 : Nat) : Int) : Int)]]) (by kernel_rfl) ((From_k (From_y (id := 1) (ver := 1) (u := ((cc.1 : Nat) : Int)) (v := ((cc.2 : Nat) : Int)) _ _ (by omega) (aa_q (hV251.aa)) hX262 (hPx261) hX262 (hT.ext hE) (Top.prod_ok hAll hvA) hf) him).mono ?_))
        rintro e w305 ⟨rfl, hb⟩
        replace hE := hE.trans hb
        replace hX19 := hX19.trans hb
        replace hX211 := hX211.trans hb
        replace hX262 := hX262.trans hb
        replace hX276 := hX276.trans hb
        replace hX282 := hX282.trans hb
        replace hX289 := hX289.trans hb
        have hs306 := hb.size
        clear hb
        refine ⟨_, rfl, ⟨(BoxAt.ext hX262 bO255_0).1, (BoxAt.ext hX262 bO255_1).1, (BoxAt.ext hX262 bO255_2).1, (BoxAt.ext hX262 bO255_3).1, (hX289.cell d0), (hX289.cell d1)⟩, ?_⟩
        refine wd_take 6 (.tuple #[.int .i64 (((kk : Nat) : Int) : Int), .bool true]) hR rfl (by kernel_rfl) rfl (by kernel_rfl) (fun w _ => by kernel_rfl) (⟨(BoxAt.ext hX262 bO255_0).1, (BoxAt.ext hX262 bO255_1).1, (BoxAt.ext hX262 bO255_2).1, (BoxAt.ext hX262 bO255_3).1, (hX289.cell d0), (hX289.cell d1)⟩) ?_
        refine wd_take 7 (.int .i64 (((kk : Nat) : Int) : Int)) hR rfl (by kernel_rfl) rfl (by kernel_rfl) (fun w _ => by kernel_rfl) (⟨(BoxAt.ext hX262 bO255_0).1, (BoxAt.ext hX262 bO255_1).1, (BoxAt.ext hX262 bO255_2).1, (BoxAt.ext hX262 bO255_3).1, (hX289.cell d0), (hX289.cell d1)⟩) ?_
        refine wd_take 8 (.bool true) hR rfl (by kernel_rfl) rfl (by kernel_rfl) (fun w _ => by kernel_rfl) (⟨(BoxAt.ext hX262 bO255_0).1, (BoxAt.ext hX262 bO255_1).1, (BoxAt.ext hX262 bO255_2).1, (BoxAt.ext hX262 bO255_3).1, (hX289.cell d0), (hX289.cell d1)⟩) ?_
        refine wd_take 9 (.int .i64 (((kk : Nat) : Int) : Int)) hR rfl (by kernel_rfl) rfl (by kernel_rfl) (fun w _ => by kernel_rfl) (⟨(BoxAt.ext hX262 bO255_0).1, (BoxAt.ext hX262 bO255_1).1, (BoxAt.ext hX262 bO255_2).1, (BoxAt.ext hX262 bO255_3).1, (hX289.cell d0), (hX289.cell d1)⟩) ?_
        refine wd_take 10 (.bool true) hR rfl (by kernel_rfl) rfl (by kernel_rfl) (fun w _ => by kernel_rfl) (⟨(BoxAt.ext hX262 bO255_0).1, (BoxAt.ext hX262 bO255_1).1, (BoxAt.ext hX262 bO255_2).1, (BoxAt.ext hX262 bO255_3).1, (hX289.cell d0), (hX289.cell d1)⟩) ?_
        refine wd_end hL hR hK (by kernel_rfl) ?_
        refine qw_then ?_
        refine cw_clean [13, 14, 15, 30, 32, 34, 35, 37, 38, 39, 40] (ws' := [(13, .slice aP n9 cP), (14, .slice (some ⟨gR, 0, none⟩) n9 cR), (15, .pointer (some ⟨O26, 0, none⟩)), (30, .pointer (some ⟨O255, 0, none⟩)), (32, .pointer (some ⟨O270, 0, none⟩)), (34, .slice fa277 ((r9.getD []).length) fc278), (35, .bool r9.isSome), (37, .slice (some ⟨bc, 0, none⟩) ((Globe.cellsTo A 24).length) kc), (38, .int .i64 (((i : Nat) : Int) : Int)), (39, .int .i64 (((kk : Nat) : Int) : Int)), (40, .bool true)]) (by kernel_rfl) (fun L => ?_)
        refine cw_seq ?_
        refine cw_seq ?_
        refine cw_draw [(some 259, [40], []), (some 260, [32], []), (some 261, [37], []), (some 262, [38], []), (some 263, [261, 262], [2, 3]), (some 264, [263], [4]), (some 265, [260, 264], [1, 5]), (some 266, [259, 265], [0, 6]), (some 267, [266], [7, 6]), (some 268, [40, 267], [8]), (some 269, [268, 267], [9, 8, 8]), (some 270, [39, 269], [10]), (some 271, [270, 269], [11, 10]), (some 272, [271, 269], [12, 10, 10]), (some 273, [39, 272], [13]), (some 274, [14, 272], [13]), (some 275, [274, 272], [15, 13]), (some 276, [273, 275, 272], [14, 16, 13]), (some 277, [272, 276, 269], [13, 17, 10]), (some 278, [269, 277, 267], [10, 18, 8]), (some 279, [267, 278], [8, 19])] (fun w' => w'.cell? ⟨O270, 0, none⟩ = some (.slice (some ⟨B263, o264, none⟩) 24 k265) ∧ w'.cell? ⟨bc, i * 2, none⟩ = some (.int .i64 (((cc.1 : Nat) : Int) : Int)) ∧ w'.cell? ⟨bc, i * 2 + 1, none⟩ = some (.int .i64 (((cc.2 : Nat) : Int) : Int))) (by kernel_rfl) (by kernel_rfl) (by kernel_rfl) (by kernel_rfl) ((calm_then (calm_then (calm_block (calm_then (calm_then (calm_block (calm_then calm_body)))))))) (⟨(BoxAt.ext hX276 bO270_0).1, (hX289.cell d0), (hX289.cell d1)⟩) (fun ops Q X307 hb hL hR hK => ?_)
        replace hE := hE.trans hb
        replace hX19 := hX19.trans hb
        replace hX211 := hX211.trans hb
        replace hX262 := hX262.trans hb
        replace hX276 := hX276.trans hb
        replace hX282 := hX282.trans hb
        replace hX289 := hX289.trans hb
        have hs308 := hb.size
        clear hb
        refine wd_take 0 (.bool true) hR rfl (by kernel_rfl) rfl (by kernel_rfl) (fun w _ => by kernel_rfl) (⟨(BoxAt.ext hX276 bO270_0).1, (hX289.cell d0), (hX289.cell d1)⟩) ?_
        refine wd_take 1 (.agg #[.slice (some ⟨B263, o264, none⟩) 24 k265]) hR rfl (by kernel_rfl) rfl (by kernel_rfl) (fun w hS => ex_load rfl (by kernel_rfl) (ld33 (hS.1))) (⟨(BoxAt.ext hX276 bO270_0).1, (hX289.cell d0), (hX289.cell d1)⟩) ?_
        refine wd_take 2 (.slice (some ⟨bc, 0, none⟩) ((Globe.cellsTo A 24).length) kc) hR rfl (by kernel_rfl) rfl (by kernel_rfl) (fun w _ => by kernel_rfl) (⟨(BoxAt.ext hX276 bO270_0).1, (hX289.cell d0), (hX289.cell d1)⟩) ?_
        refine wd_take 3 (.int .i64 (((i : Nat) : Int) : Int)) hR rfl (by kernel_rfl) rfl (by kernel_rfl) (fun w _ => by kernel_rfl) (⟨(BoxAt.ext hX276 bO270_0).1, (hX289.cell d0), (hX289.cell d1)⟩) ?_
        refine wd_take 4 (.pointer (some ⟨bc, i * 2, none⟩)) hR rfl (by kernel_rfl) rfl (by kernel_rfl) (fun w _ => ex_index (p := .slice (some ⟨bc, 0, none⟩) ((Globe.cellsTo A 24).length) kc) (i := .int .i64 ((i : Nat) : Int)) rfl (by kernel_rfl) (by kernel_rfl) (ix60z (k := i) (by omega))) (⟨(BoxAt.ext hX276 bO270_0).1, (hX289.cell d0), (hX289.cell d1)⟩) ?_
        refine wd_take 5 (.agg #[.int .i64 (((cc.1 : Nat) : Int) : Int), .int .i64 (((cc.2 : Nat) : Int) : Int)]) hR rfl (by kernel_rfl) rfl (by kernel_rfl) (fun w hS => ex_load rfl (by kernel_rfl) (ld65 (hS.2.1) (hS.2.2))) (⟨(BoxAt.ext hX276 bO270_0).1, (hX289.cell d0), (hX289.cell d1)⟩) ?_
        refine wd_step 6 hR rfl (by kernel_rfl) (by kernel_rfl) (by kernel_rfl) (sn_call (f := 20) (args := #[.agg #[.slice (some ⟨B263, o264, none⟩) 24 k265], .agg #[.int .i64 (((cc.1 : Nat) : Int) : Int), .int .i64 (((cc.2 : Nat) : Int) : Int)]]) (by kernel_rfl) ((Has_q (r := false) _ _ hv266.aa hX276 (by rw [hasB_nat (Prod.rest_valid _ hvA) hu9 hv9]; exact hrest)).mono ?_))
        rintro e w309 ⟨rfl, hb⟩
        replace hE := hE.trans hb
        replace hX19 := hX19.trans hb
        replace hX211 := hX211.trans hb
        replace hX262 := hX262.trans hb
        replace hX276 := hX276.trans hb
        replace hX282 := hX282.trans hb
        replace hX289 := hX289.trans hb
        have hs310 := hb.size
        clear hb
        refine ⟨_, rfl, ⟨(BoxAt.ext hX276 bO270_0).1, (hX289.cell d0), (hX289.cell d1)⟩, ?_⟩
        refine wd_take 7 (.bool false) hR rfl (by kernel_rfl) rfl (by kernel_rfl) (fun w _ => by kernel_rfl) (⟨(BoxAt.ext hX276 bO270_0).1, (hX289.cell d0), (hX289.cell d1)⟩) ?_
        refine wd_take 8 (.bool false) hR rfl (by kernel_rfl) rfl (by kernel_rfl) (fun w _ => by kernel_rfl) (⟨(BoxAt.ext hX276 bO270_0).1, (hX289.cell d0), (hX289.cell d1)⟩) ?_
        refine wd_take 9 (.bool true) hR rfl (by kernel_rfl) rfl (by kernel_rfl) (fun w _ => by kernel_rfl) (⟨(BoxAt.ext hX276 bO270_0).1, (hX289.cell d0), (hX289.cell d1)⟩) ?_
        refine wd_take 10 (.bool true) hR rfl (by kernel_rfl) rfl (by kernel_rfl) (fun w _ => by kernel_rfl) (⟨(BoxAt.ext hX276 bO270_0).1, (hX289.cell d0), (hX289.cell d1)⟩) ?_
        refine wd_take 11 (.int .i64 (((kk : Nat) : Int) : Int)) hR rfl (by kernel_rfl) rfl (by kernel_rfl) (fun w _ => by kernel_rfl) (⟨(BoxAt.ext hX276 bO270_0).1, (hX289.cell d0), (hX289.cell d1)⟩) ?_
        refine wd_take 12 (.bool false) hR rfl (by kernel_rfl) rfl (by kernel_rfl) (fun w _ => ev_ndec (show _ = Result.ok (Next.value (Value.bool (decide ((((kk : Nat) : Int) : Int) < (0 : Int))))) _ from by kernel_rfl) (by omega)) (⟨(BoxAt.ext hX276 bO270_0).1, (hX289.cell d0), (hX289.cell d1)⟩) ?_
        refine wd_take 13 (.bool false) hR rfl (by kernel_rfl) rfl (by kernel_rfl) (fun w _ => by kernel_rfl) (⟨(BoxAt.ext hX276 bO270_0).1, (hX289.cell d0), (hX289.cell d1)⟩) ?_
        refine wd_take 14 (.int .i64 (((kk : Nat) : Int) : Int)) hR rfl (by kernel_rfl) rfl (by kernel_rfl) (fun w _ => by kernel_rfl) (⟨(BoxAt.ext hX276 bO270_0).1, (hX289.cell d0), (hX289.cell d1)⟩) ?_
        refine wd_take 15 (.slice (some ⟨gR, 0, none⟩) n9 cR) hR rfl (by kernel_rfl) rfl (by kernel_rfl) (fun w _ => by kernel_rfl) (⟨(BoxAt.ext hX276 bO270_0).1, (hX289.cell d0), (hX289.cell d1)⟩) ?_
        refine wd_take 16 (.int .i64 (((n9 : Nat) : Int) : Int)) hR rfl (by kernel_rfl) rfl (by kernel_rfl) (fun w _ => by kernel_rfl) (⟨(BoxAt.ext hX276 bO270_0).1, (hX289.cell d0), (hX289.cell d1)⟩) ?_
        refine wd_take 17 (.bool false) hR rfl (by kernel_rfl) rfl (by kernel_rfl) (fun w _ => ev_ndec (show _ = Result.ok (Next.value (Value.bool (decide ((((kk : Nat) : Int) : Int) ≥ (((n9 : Nat) : Int) : Int))))) _ from by kernel_rfl) (by omega)) (⟨(BoxAt.ext hX276 bO270_0).1, (hX289.cell d0), (hX289.cell d1)⟩) ?_
        refine wd_take 18 (.bool false) hR rfl (by kernel_rfl) rfl (by kernel_rfl) (fun w _ => by kernel_rfl) (⟨(BoxAt.ext hX276 bO270_0).1, (hX289.cell d0), (hX289.cell d1)⟩) ?_
        refine wd_take 19 (.bool false) hR rfl (by kernel_rfl) rfl (by kernel_rfl) (fun w _ => by kernel_rfl) (⟨(BoxAt.ext hX276 bO270_0).1, (hX289.cell d0), (hX289.cell d1)⟩) ?_
        refine wd_take 20 (.bool false) hR rfl (by kernel_rfl) rfl (by kernel_rfl) (fun w _ => by kernel_rfl) (⟨(BoxAt.ext hX276 bO270_0).1, (hX289.cell d0), (hX289.cell d1)⟩) ?_
        refine wd_end hL hR hK (by kernel_rfl) ?_
        refine qw_then ?_
        refine cw_clean [13, 14, 15, 30, 32, 34, 35, 37, 38, 39, 40, 279] (ws' := [(13, .slice aP n9 cP), (14, .slice (some ⟨gR, 0, none⟩) n9 cR), (15, .pointer (some ⟨O26, 0, none⟩)), (30, .pointer (some ⟨O255, 0, none⟩)), (32, .pointer (some ⟨O270, 0, none⟩)), (34, .slice fa277 ((r9.getD []).length) fc278), (35, .bool r9.isSome), (37, .slice (some ⟨bc, 0, none⟩) ((Globe.cellsTo A 24).length) kc), (38, .int .i64 (((i : Nat) : Int) : Int)), (39, .int .i64 (((kk : Nat) : Int) : Int)), (40, .bool true), (279, .bool false)]) (by kernel_rfl) (fun L => ?_)
        refine cw_f (by kernel_rfl) ?_
        refine cw_skip ?_
        refine qw_then ?_
        refine cw_seq ?_
        refine cw_draw [(some 280, [40], []), (some 281, [280], [0]), (some 282, [14, 281], [1]), (some 283, [39, 281], [1]), (some 284, [14, 281], [1]), (some 285, [284, 281], [4, 1]), (some 286, [285, 281], [5, 1]), (some 287, [283, 286, 281], [3, 6, 1]), (some 288, [287, 281], [7, 1]), (some 289, [282, 288, 281], [2, 8, 1]), (some 290, [289, 281], [9, 1]), (some 291, [37, 281], [1]), (some 292, [38, 281], [1]), (some 293, [291, 292, 281], [11, 12, 1]), (some 294, [293, 281], [13, 1]), (some 295, [290, 294, 281], [10, 14, 1, 1]), (some 296, [295, 281], [15, 1]), (some 297, [281, 296], [1, 16])] (fun w' => w'.cell? ⟨gR, kk, none⟩ = some (.slice (some ⟨xr.b3, 0, none⟩) 24 xr.k3) ∧ w'.cell? ⟨bc, i * 2, none⟩ = some (.int .i64 (((cc.1 : Nat) : Int) : Int)) ∧ w'.cell? ⟨bc, i * 2 + 1, none⟩ = some (.int .i64 (((cc.2 : Nat) : Int) : Int))) (by kernel_rfl) (by kernel_rfl) (by kernel_rfl) (by kernel_rfl) ((calm_then (calm_block (calm_then (calm_then (calm_block (calm_then calm_body))))))) (⟨(hX211.cell xc9), (hX289.cell d0), (hX289.cell d1)⟩) (fun ops Q X311 hb hL hR hK => ?_)
        replace hE := hE.trans hb
        replace hX19 := hX19.trans hb
        replace hX211 := hX211.trans hb
        replace hX262 := hX262.trans hb
        replace hX276 := hX276.trans hb
        replace hX282 := hX282.trans hb
        replace hX289 := hX289.trans hb
        have hs312 := hb.size
        clear hb
        refine wd_take 0 (.bool true) hR rfl (by kernel_rfl) rfl (by kernel_rfl) (fun w _ => by kernel_rfl) (⟨(hX211.cell xc9), (hX289.cell d0), (hX289.cell d1)⟩) ?_
        refine wd_take 1 (.bool true) hR rfl (by kernel_rfl) rfl (by kernel_rfl) (fun w _ => by kernel_rfl) (⟨(hX211.cell xc9), (hX289.cell d0), (hX289.cell d1)⟩) ?_
        refine wd_take 2 (.slice (some ⟨gR, 0, none⟩) n9 cR) hR rfl (by kernel_rfl) rfl (by kernel_rfl) (fun w _ => by kernel_rfl) (⟨(hX211.cell xc9), (hX289.cell d0), (hX289.cell d1)⟩) ?_
        refine wd_take 3 (.int .i64 (((kk : Nat) : Int) : Int)) hR rfl (by kernel_rfl) rfl (by kernel_rfl) (fun w _ => by kernel_rfl) (⟨(hX211.cell xc9), (hX289.cell d0), (hX289.cell d1)⟩) ?_
        refine wd_take 4 (.slice (some ⟨gR, 0, none⟩) n9 cR) hR rfl (by kernel_rfl) rfl (by kernel_rfl) (fun w _ => by kernel_rfl) (⟨(hX211.cell xc9), (hX289.cell d0), (hX289.cell d1)⟩) ?_
        refine wd_take 5 (.int .i64 (((n9 : Nat) : Int) : Int)) hR rfl (by kernel_rfl) rfl (by kernel_rfl) (fun w _ => by kernel_rfl) (⟨(hX211.cell xc9), (hX289.cell d0), (hX289.cell d1)⟩) ?_
        refine wd_take 6 (.int .i64 ((((n9 : Nat) : Int)) - 1 : Int)) hR rfl (by kernel_rfl) rfl (by kernel_rfl) (fun w _ => ev_wrap (by kernel_rfl) (by omega) (by omega)) (⟨(hX211.cell xc9), (hX289.cell d0), (hX289.cell d1)⟩) ?_
        refine wd_take 7 (.int .i64 (((kk : Nat) : Int) : Int)) hR rfl (by kernel_rfl) rfl (by kernel_rfl) (fun w _ => ev_int (show _ = Result.ok (Next.value (Value.int .i64 (if (((n9 : Nat) : Int) - 1) < ((kk : Nat) : Int) then ((n9 : Nat) : Int) - 1 else ((kk : Nat) : Int)))) _ from by kernel_rfl) (by split <;> omega)) (⟨(hX211.cell xc9), (hX289.cell d0), (hX289.cell d1)⟩) ?_
        refine wd_take 8 (.int .i64 (((kk : Nat) : Int) : Int)) hR rfl (by kernel_rfl) rfl (by kernel_rfl) (fun w _ => ev_int (show _ = Result.ok (Next.value (Value.int .i64 (if (0 : Int) < ((kk : Nat) : Int) then ((kk : Nat) : Int) else (0 : Int)))) _ from by kernel_rfl) (by split <;> omega)) (⟨(hX211.cell xc9), (hX289.cell d0), (hX289.cell d1)⟩) ?_
        refine wd_take 9 (.pointer (some ⟨gR, kk, none⟩)) hR rfl (by kernel_rfl) rfl (by kernel_rfl) (fun w _ => ex_index (p := .slice (some ⟨gR, 0, none⟩) n9 cR) (i := .int .i64 ((kk : Nat) : Int)) rfl (by kernel_rfl) (by kernel_rfl) (ix31z (k := kk) (by omega))) (⟨(hX211.cell xc9), (hX289.cell d0), (hX289.cell d1)⟩) ?_
        refine wd_take 10 (.agg #[.slice (some ⟨xr.b3, 0, none⟩) 24 xr.k3]) hR rfl (by kernel_rfl) rfl (by kernel_rfl) (fun w hS => ex_load rfl (by kernel_rfl) (ld33 (hS.1))) (⟨(hX211.cell xc9), (hX289.cell d0), (hX289.cell d1)⟩) ?_
        refine wd_take 11 (.slice (some ⟨bc, 0, none⟩) ((Globe.cellsTo A 24).length) kc) hR rfl (by kernel_rfl) rfl (by kernel_rfl) (fun w _ => by kernel_rfl) (⟨(hX211.cell xc9), (hX289.cell d0), (hX289.cell d1)⟩) ?_
        refine wd_take 12 (.int .i64 (((i : Nat) : Int) : Int)) hR rfl (by kernel_rfl) rfl (by kernel_rfl) (fun w _ => by kernel_rfl) (⟨(hX211.cell xc9), (hX289.cell d0), (hX289.cell d1)⟩) ?_
        refine wd_take 13 (.pointer (some ⟨bc, i * 2, none⟩)) hR rfl (by kernel_rfl) rfl (by kernel_rfl) (fun w _ => ex_index (p := .slice (some ⟨bc, 0, none⟩) ((Globe.cellsTo A 24).length) kc) (i := .int .i64 ((i : Nat) : Int)) rfl (by kernel_rfl) (by kernel_rfl) (ix60z (k := i) (by omega))) (⟨(hX211.cell xc9), (hX289.cell d0), (hX289.cell d1)⟩) ?_
        refine wd_take 14 (.agg #[.int .i64 (((cc.1 : Nat) : Int) : Int), .int .i64 (((cc.2 : Nat) : Int) : Int)]) hR rfl (by kernel_rfl) rfl (by kernel_rfl) (fun w hS => ex_load rfl (by kernel_rfl) (ld65 (hS.2.1) (hS.2.2))) (⟨(hX211.cell xc9), (hX289.cell d0), (hX289.cell d1)⟩) ?_
        refine wd_step 15 hR rfl (by kernel_rfl) (by kernel_rfl) (by kernel_rfl) (sn_call (f := 20) (args := #[.agg #[.slice (some ⟨xr.b3, 0, none⟩) 24 xr.k3], .agg #[.int .i64 (((cc.1 : Nat) : Int) : Int), .int .i64 (((cc.2 : Nat) : Int) : Int)]]) (by kernel_rfl) ((Has_q (r := true) _ _ xv9.aa hX211 (by rw [hasB_nat xv9.2 hu9 hv9]; exact hre)).mono ?_))
        rintro e w313 ⟨rfl, hb⟩
        replace hE := hE.trans hb
        replace hX19 := hX19.trans hb
        replace hX211 := hX211.trans hb
        replace hX262 := hX262.trans hb
        replace hX276 := hX276.trans hb
        replace hX282 := hX282.trans hb
        replace hX289 := hX289.trans hb
        have hs314 := hb.size
        clear hb
        refine ⟨_, rfl, ⟨(hX211.cell xc9), (hX289.cell d0), (hX289.cell d1)⟩, ?_⟩
        refine wd_take 16 (.bool false) hR rfl (by kernel_rfl) rfl (by kernel_rfl) (fun w _ => by kernel_rfl) (⟨(hX211.cell xc9), (hX289.cell d0), (hX289.cell d1)⟩) ?_
        refine wd_take 17 (.bool false) hR rfl (by kernel_rfl) rfl (by kernel_rfl) (fun w _ => by kernel_rfl) (⟨(hX211.cell xc9), (hX289.cell d0), (hX289.cell d1)⟩) ?_
        refine wd_end hL hR hK (by kernel_rfl) ?_
        refine qw_then ?_
        refine cw_clean [13, 14, 15, 30, 32, 34, 35, 37, 38, 297] (ws' := [(13, .slice aP n9 cP), (14, .slice (some ⟨gR, 0, none⟩) n9 cR), (15, .pointer (some ⟨O26, 0, none⟩)), (30, .pointer (some ⟨O255, 0, none⟩)), (32, .pointer (some ⟨O270, 0, none⟩)), (34, .slice fa277 ((r9.getD []).length) fc278), (35, .bool r9.isSome), (37, .slice (some ⟨bc, 0, none⟩) ((Globe.cellsTo A 24).length) kc), (38, .int .i64 (((i : Nat) : Int) : Int)), (297, .bool false)]) (by kernel_rfl) (fun L => ?_)
        refine cw_f (by kernel_rfl) ?_
        refine cw_skip ?_
        refine qw_block ?_
        refine qw_then ?_
        refine cw_plain ?_
        refine pl_take (.int .i64 (((i : Nat) : Int) : Int)) rfl (by kernel_rfl) (by kernel_rfl) (by kernel_rfl) (by kernel_rfl) ?_
        refine pl_take (.int .i64 (((i + 1 : Nat) : Int) : Int)) rfl (by kernel_rfl) (by kernel_rfl) (by kernel_rfl) (ev_wrap (by kernel_rfl) (by omega) (by omega)) ?_
        refine pl_take (.int .i64 (((i + 1 : Nat) : Int) : Int)) rfl (by kernel_rfl) (by kernel_rfl) (by kernel_rfl) (by kernel_rfl) ?_
        refine pl_nil ?_
        refine qw_round [13, 14, 15, 30, 32, 34, 35, 37, 38] (ws' := [(13, .slice aP n9 cP), (14, .slice (some ⟨gR, 0, none⟩) n9 cR), (15, .pointer (some ⟨O26, 0, none⟩)), (30, .pointer (some ⟨O255, 0, none⟩)), (32, .pointer (some ⟨O270, 0, none⟩)), (34, .slice fa277 ((r9.getD []).length) fc278), (35, .bool r9.isSome), (37, .slice (some ⟨bc, 0, none⟩) ((Globe.cellsTo A 24).length) kc), (38, .int .i64 (((i + 1 : Nat) : Int) : Int))]) (by kernel_rfl) _ ?_ ⟨(i + 1), rfl, rfl, (Nat.le_trans hs290 (Nat.le_trans hs304 (Nat.le_trans hs306 (Nat.le_trans hs308 (Nat.le_trans hs310 (Nat.le_trans hs312 hs314)))))), hE, hX19, hX211, hX262, hX276, hX282, hX289, by omega⟩
        omega
    ·
      refine cw_seq ?_
      refine cw_seq ?_
      refine cw_plain ?_
      refine pl_take (.int .i64 (((i : Nat) : Int) : Int)) rfl (by kernel_rfl) (by kernel_rfl) (by kernel_rfl) (by kernel_rfl) ?_
      refine pl_take (.slice xc ((Globe.cellsTo A 24).length) kc) rfl (by kernel_rfl) (by kernel_rfl) (by kernel_rfl) (by kernel_rfl) ?_
      refine pl_take (.int .i64 ((((Globe.cellsTo A 24).length : Nat) : Int) : Int)) rfl (by kernel_rfl) (by kernel_rfl) (by kernel_rfl) (by kernel_rfl) ?_
      refine pl_take (.bool false) rfl (by kernel_rfl) (by kernel_rfl) (by kernel_rfl) (ev_ndec (show _ = Result.ok (Next.value (Value.bool (decide ((((i : Nat) : Int) : Int) < ((((Globe.cellsTo A 24).length : Nat) : Int) : Int))))) _ from by kernel_rfl) (by omega)) ?_
      refine pl_nil ?_
      refine qw_then ?_
      refine cw_f (by kernel_rfl) ?_
      refine cw_exit ?_
      refine qw_then_exit ?_
      refine qw_then_exit ?_
      refine qw_block_out ?_
      refine qw_then ?_
      refine cw_seq ?_
      refine cw_seq ?_
      rcases r9 with _ | l
      ·
        refine cw_plain ?_
        refine pl_take (.bool false) rfl (by kernel_rfl) (by kernel_rfl) (by kernel_rfl) (by kernel_rfl) ?_
        refine pl_take (.bool true) rfl (by kernel_rfl) (by kernel_rfl) (by kernel_rfl) (by kernel_rfl) ?_
        refine pl_nil ?_
        refine qw_then ?_
        refine cw_clean [13, 15, 34, 299] (ws' := [(13, .slice aP n9 cP), (15, .pointer (some ⟨O26, 0, none⟩)), (34, .slice fa277 (([] : List Nat).length) fc278), (299, .bool true)]) (by kernel_rfl) (fun L => ?_)
        refine cw_t (by kernel_rfl) ?_
        refine cw_seq ?_
        refine cw_plain ?_
        refine pl_take (.bool true) rfl (by kernel_rfl) (by kernel_rfl) (by kernel_rfl) (by kernel_rfl) ?_
        refine pl_nil ?_
        refine qw_then ?_
        refine cw_ret ?_
        refine qw_then_ret ?_
        refine qw_ret [.bool true] rfl ⟨(by kernel_rfl), trivial⟩ ?_
        exact ⟨rfl, hE⟩
      ·
        have hl9 : Globe.fewestL (Globe.enough A ((ys.map Top.Item.st).map fun s => s.1)) ys.length = some l := by rw [hn9]; exact hr9
        have hcl9 := Top.cho_lt hl9
        have hcn9 := Top.cho_len hAll hl9
        obtain ⟨rs, hRw, hrd⟩ := id hPc9
        have hFw : IntsAt w280 fa277 (intsN l) := hi279
        refine cw_plain ?_
        refine pl_take (.bool true) rfl (by kernel_rfl) (by kernel_rfl) (by kernel_rfl) (by kernel_rfl) ?_
        refine pl_take (.bool false) rfl (by kernel_rfl) (by kernel_rfl) (by kernel_rfl) (by kernel_rfl) ?_
        refine pl_nil ?_
        refine qw_then ?_
        refine cw_clean [13, 15, 34, 299] (ws' := [(13, .slice aP n9 cP), (15, .pointer (some ⟨O26, 0, none⟩)), (34, .slice fa277 l.length fc278), (299, .bool false)]) (by kernel_rfl) (fun L => ?_)
        refine cw_f (by kernel_rfl) ?_
        refine cw_skip ?_
        refine qw_then ?_
        refine cw_seq ?_
        refine cw_plain ?_
        refine pl_take (.slice none 0 0) rfl (by kernel_rfl) (by kernel_rfl) (by kernel_rfl) (by kernel_rfl) ?_
        refine pl_nil ?_
        refine qw_then ?_
        refine cw_seq ?_
        refine cw_seq ?_
        refine cw_plain ?_
        refine pl_take (.int .i64 0) rfl (by kernel_rfl) (by kernel_rfl) (by kernel_rfl) (by kernel_rfl) ?_
        refine pl_nil ?_
        refine qw_then ?_
        refine cw_block ?_
        have hX315 : Ext w291 w291 := Ext.refl _
        refine cw_loop [13, 15, 34, 41, 42] (fun ws' wr m => ∃ i : Nat, ∃ aC : Option Addr, ∃ cC : Nat, ws' = [(13, .slice aP n9 cP), (15, .pointer (some ⟨O26, 0, none⟩)), (34, .slice fa277 l.length fc278), (41, .slice aC i cC), (42, .int .i64 (((i : Nat) : Int) : Int))] ∧ m = l.length - i ∧ w291.heap.size ≤ wr.heap.size ∧ Ext w wr ∧ Ext X16 wr ∧ Ext w209 wr ∧ Ext X259 wr ∧ Ext X274 wr ∧ Ext w280 wr ∧ Ext w287 wr ∧ Ext w291 wr ∧ OwnL rawR w291.heap.size 49 4 (.slice aC i cC) wr (rawC rs (l.take i)) ∧ i ≤ l.length) (ws0 := [(13, .slice aP n9 cP), (15, .pointer (some ⟨O26, 0, none⟩)), (34, .slice fa277 l.length fc278), (41, .slice none 0 0), (42, .int .i64 0)]) (by kernel_rfl) _ ⟨0, none, 0, rfl, rfl, Nat.le_refl _, hE, hX19, hX211, hX262, hX276, hX282, hX289, hX315, OwnL.nil _ _ _ _ _, Nat.zero_le _⟩ ?_
        clear hE hX19 hX211 hX262 hX276 hX282 hX289 hX315
        rintro m318 L ws w317 ⟨i, aC, cC, rfl, rfl, hs316, hE, hX19, hX211, hX262, hX276, hX282, hX289, hX315, ownC, hi⟩
        by_cases hlt : i < l.length
        ·
          obtain ⟨D, hD⟩ : ∃ D, l[i]? = some D := ⟨_, List.getElem?_eq_getElem hlt⟩
          have hDl := hcl9 D (List.mem_of_getElem? hD)
          obtain ⟨bi, oi, rfl, hci⟩ := ints_get hFw (by omega)
          have ci9 := hci i D hD
          obtain ⟨bp, op, rfl, hcp⟩ := hRw.2.2.resolve_left (by omega)
          obtain ⟨x9, hx9⟩ : ∃ x, rs[D]? = some x := ⟨_, List.getElem?_eq_getElem (by rw [hRw.1]; omega)⟩
          obtain ⟨y0, y1, y2, y3⟩ := hcp D x9 hx9
          refine cw_seq ?_
          refine cw_seq ?_
          refine cw_plain ?_
          refine pl_take (.int .i64 (((i : Nat) : Int) : Int)) rfl (by kernel_rfl) (by kernel_rfl) (by kernel_rfl) (by kernel_rfl) ?_
          refine pl_take (.slice (some ⟨bi, oi, none⟩) l.length fc278) rfl (by kernel_rfl) (by kernel_rfl) (by kernel_rfl) (by kernel_rfl) ?_
          refine pl_take (.int .i64 (((l.length : Nat) : Int) : Int)) rfl (by kernel_rfl) (by kernel_rfl) (by kernel_rfl) (by kernel_rfl) ?_
          refine pl_take (.bool true) rfl (by kernel_rfl) (by kernel_rfl) (by kernel_rfl) (ev_dec (show _ = Result.ok (Next.value (Value.bool (decide ((((i : Nat) : Int) : Int) < (((l.length : Nat) : Int) : Int))))) _ from by kernel_rfl) (by omega)) ?_
          refine pl_nil ?_
          refine qw_then ?_
          refine cw_t (by kernel_rfl) ?_
          refine cw_skip ?_
          refine qw_then ?_
          refine cw_seq ?_
          refine cw_block ?_
          refine cw_seq ?_
          refine cw_seq ?_
          refine cw_plain ?_
          refine pl_take (.slice (some ⟨bi, oi, none⟩) l.length fc278) rfl (by kernel_rfl) (by kernel_rfl) (by kernel_rfl) (by kernel_rfl) ?_
          refine pl_take (.int .i64 (((i : Nat) : Int) : Int)) rfl (by kernel_rfl) (by kernel_rfl) (by kernel_rfl) (by kernel_rfl) ?_
          refine pl_take (.pointer (some ⟨bi, oi + i, none⟩)) rfl (by kernel_rfl) (by kernel_rfl) (by kernel_rfl) (ex_index (p := .slice (some ⟨bi, oi, none⟩) l.length fc278) (i := .int .i64 ((i : Nat) : Int)) rfl (by kernel_rfl) (by kernel_rfl) (ix24 (k := i) (by omega))) ?_
          refine pl_take (.int .i64 (((D : Nat) : Int) : Int)) rfl (by kernel_rfl) (by kernel_rfl) (by kernel_rfl) (ex_load rfl (by kernel_rfl) (ld3 ((hX282.cell ci9)))) ?_
          refine pl_take (.bool false) rfl (by kernel_rfl) (by kernel_rfl) (by kernel_rfl) (ev_ndec (show _ = Result.ok (Next.value (Value.bool (decide ((((D : Nat) : Int) : Int) < (0 : Int))))) _ from by kernel_rfl) (by omega)) ?_
          refine pl_take (.bool false) rfl (by kernel_rfl) (by kernel_rfl) (by kernel_rfl) (by kernel_rfl) ?_
          refine pl_take (.slice (some ⟨bi, oi, none⟩) l.length fc278) rfl (by kernel_rfl) (by kernel_rfl) (by kernel_rfl) (by kernel_rfl) ?_
          refine pl_take (.int .i64 (((i : Nat) : Int) : Int)) rfl (by kernel_rfl) (by kernel_rfl) (by kernel_rfl) (by kernel_rfl) ?_
          refine pl_take (.pointer (some ⟨bi, oi + i, none⟩)) rfl (by kernel_rfl) (by kernel_rfl) (by kernel_rfl) (ex_index (p := .slice (some ⟨bi, oi, none⟩) l.length fc278) (i := .int .i64 ((i : Nat) : Int)) rfl (by kernel_rfl) (by kernel_rfl) (ix24 (k := i) (by omega))) ?_
          refine pl_take (.int .i64 (((D : Nat) : Int) : Int)) rfl (by kernel_rfl) (by kernel_rfl) (by kernel_rfl) (ex_load rfl (by kernel_rfl) (ld3 ((hX282.cell ci9)))) ?_
          refine pl_take (.slice (some ⟨bp, op, none⟩) n9 cP) rfl (by kernel_rfl) (by kernel_rfl) (by kernel_rfl) (by kernel_rfl) ?_
          refine pl_take (.int .i64 (((n9 : Nat) : Int) : Int)) rfl (by kernel_rfl) (by kernel_rfl) (by kernel_rfl) (by kernel_rfl) ?_
          refine pl_take (.bool false) rfl (by kernel_rfl) (by kernel_rfl) (by kernel_rfl) (ev_ndec (show _ = Result.ok (Next.value (Value.bool (decide ((((D : Nat) : Int) : Int) ≥ (((n9 : Nat) : Int) : Int))))) _ from by kernel_rfl) (by omega)) ?_
          refine pl_take (.bool false) rfl (by kernel_rfl) (by kernel_rfl) (by kernel_rfl) (by kernel_rfl) ?_
          refine pl_nil ?_
          refine qw_then ?_
          refine cw_clean [13, 15, 34, 41, 42, 319] (ws' := [(13, .slice (some ⟨bp, op, none⟩) n9 cP), (15, .pointer (some ⟨O26, 0, none⟩)), (34, .slice (some ⟨bi, oi, none⟩) l.length fc278), (41, .slice aC i cC), (42, .int .i64 (((i : Nat) : Int) : Int)), (319, .bool false)]) (by kernel_rfl) (fun L => ?_)
          refine cw_f (by kernel_rfl) ?_
          refine cw_skip ?_
          refine qw_then ?_
          refine cw_plain ?_
          refine pl_take (.slice aC i cC) rfl (by kernel_rfl) (by kernel_rfl) (by kernel_rfl) (by kernel_rfl) ?_
          refine pl_take (.slice (some ⟨bp, op, none⟩) n9 cP) rfl (by kernel_rfl) (by kernel_rfl) (by kernel_rfl) (by kernel_rfl) ?_
          refine pl_take (.slice (some ⟨bi, oi, none⟩) l.length fc278) rfl (by kernel_rfl) (by kernel_rfl) (by kernel_rfl) (by kernel_rfl) ?_
          refine pl_take (.int .i64 (((i : Nat) : Int) : Int)) rfl (by kernel_rfl) (by kernel_rfl) (by kernel_rfl) (by kernel_rfl) ?_
          refine pl_take (.pointer (some ⟨bi, oi + i, none⟩)) rfl (by kernel_rfl) (by kernel_rfl) (by kernel_rfl) (ex_index (p := .slice (some ⟨bi, oi, none⟩) l.length fc278) (i := .int .i64 ((i : Nat) : Int)) rfl (by kernel_rfl) (by kernel_rfl) (ix24 (k := i) (by omega))) ?_
          refine pl_take (.int .i64 (((D : Nat) : Int) : Int)) rfl (by kernel_rfl) (by kernel_rfl) (by kernel_rfl) (ex_load rfl (by kernel_rfl) (ld3 ((hX282.cell ci9)))) ?_
          refine pl_take (.pointer (some ⟨bp, op + D * 4, none⟩)) rfl (by kernel_rfl) (by kernel_rfl) (by kernel_rfl) (ex_index (p := .slice (some ⟨bp, op, none⟩) n9 cP) (i := .int .i64 ((D : Nat) : Int)) rfl (by kernel_rfl) (by kernel_rfl) (ix30 (k := D) (by omega))) ?_
          refine pl_take (.agg #[.int .i64 (x9.im : Int), .int .i64 (x9.t : Int), .bool x9.cl, .slice x9.a x9.n x9.c]) rfl (by kernel_rfl) (by kernel_rfl) (by kernel_rfl) (ex_load rfl (by kernel_rfl) (ld49 ((hX211.cell y0)) ((hX211.cell y1)) ((hX211.cell y2)) ((hX211.cell y3)))) ?_
          refine pl_step rfl (by kernel_rfl) (by kernel_rfl) (by kernel_rfl) (sn_newS (us := #[.int .i64 (x9.im : Int), .int .i64 (x9.t : Int), .bool x9.cl, .slice x9.a x9.n x9.c]) (t := 49) (k := 1) (c := 1) (by kernel_rfl) ?_)
          intro O319 X320 hO hOs hb hbx
          have hzO319 := hO; have hyO319 := hOs; clear hO hOs
          have bO319_0 : BoxAt X320 O319 0 (.int .i64 (x9.im : Int)) := hbx 0 _ rfl
          have bO319_1 : BoxAt X320 O319 1 (.int .i64 (x9.t : Int)) := hbx 1 _ rfl
          have bO319_2 : BoxAt X320 O319 2 (.bool x9.cl) := hbx 2 _ rfl
          have bO319_3 : BoxAt X320 O319 3 (.slice x9.a x9.n x9.c) := hbx 3 _ rfl
          clear hbx
          replace hE := hE.trans hb
          replace hX19 := hX19.trans hb
          replace hX211 := hX211.trans hb
          replace hX262 := hX262.trans hb
          replace hX276 := hX276.trans hb
          replace hX282 := hX282.trans hb
          replace hX289 := hX289.trans hb
          replace hX315 := hX315.trans hb
          replace ownC := ownC.ext hb
          have hs321 := hb.size
          clear hb
          have lt322 := bO319_0.lt
          have hbs333 := ownC.base
          obtain ⟨g323, cap324, w325, hrun326, own327, hgr328, hgb329⟩ := own_app1k (P := Tryz.prog) (ty := 30) pieceT (ownC) (Nat.le_trans hs316 hs321) (k := i) (rawC_len rs hi) (O := O319) (c := 1) (x := x9) (d := [.int .i64 (x9.im : Int), .int .i64 (x9.t : Int), .bool x9.cl, .slice x9.a x9.n x9.c]) (F := []) rfl (cells4 (bO319_0.1) (bO319_1.1) (bO319_2.1) (bO319_3.1)) (by simp [Value.oneCell']) (⟨rfl, rfl⟩) (fun b hb => by cases hb) (by omega) (by omega)
          refine pl_step rfl (by kernel_rfl) (by kernel_rfl) (by kernel_rfl) (sn_eff (v := .slice (some ⟨g323, 0, none⟩) (i + 1) cap324) (w' := w325) (ex_append rfl (by kernel_rfl) (by kernel_rfl) hrun326) ?_)
          replace hE := hgr328.ext _ hE (Nat.le_trans hs3 (Nat.le_trans hs7 (Nat.le_trans hs10 (Nat.le_trans hs12 (Nat.le_trans hs14 (Nat.le_trans hs17 (Nat.le_trans hs24 (Nat.le_trans hs28 (Nat.le_trans hs31 (Nat.le_trans hs32 (Nat.le_trans hs223 (Nat.le_trans hs228 (Nat.le_trans hs232 (Nat.le_trans hs235 (Nat.le_trans hs237 (Nat.le_trans hs253 (Nat.le_trans hs257 (Nat.le_trans hs260 (Nat.le_trans hs268 (Nat.le_trans hs272 (Nat.le_trans hs275 (Nat.le_trans hs281 (Nat.le_trans hs284 (Nat.le_trans hs286 (Nat.le_trans hs288 hs290)))))))))))))))))))))))))
          replace hX19 := hgr328.ext _ hX19 (Nat.le_trans hs24 (Nat.le_trans hs28 (Nat.le_trans hs31 (Nat.le_trans hs32 (Nat.le_trans hs223 (Nat.le_trans hs228 (Nat.le_trans hs232 (Nat.le_trans hs235 (Nat.le_trans hs237 (Nat.le_trans hs253 (Nat.le_trans hs257 (Nat.le_trans hs260 (Nat.le_trans hs268 (Nat.le_trans hs272 (Nat.le_trans hs275 (Nat.le_trans hs281 (Nat.le_trans hs284 (Nat.le_trans hs286 (Nat.le_trans hs288 hs290)))))))))))))))))))
          replace hX211 := hgr328.ext _ hX211 (Nat.le_trans hs223 (Nat.le_trans hs228 (Nat.le_trans hs232 (Nat.le_trans hs235 (Nat.le_trans hs237 (Nat.le_trans hs253 (Nat.le_trans hs257 (Nat.le_trans hs260 (Nat.le_trans hs268 (Nat.le_trans hs272 (Nat.le_trans hs275 (Nat.le_trans hs281 (Nat.le_trans hs284 (Nat.le_trans hs286 (Nat.le_trans hs288 hs290)))))))))))))))
          replace hX262 := hgr328.ext _ hX262 (Nat.le_trans hs268 (Nat.le_trans hs272 (Nat.le_trans hs275 (Nat.le_trans hs281 (Nat.le_trans hs284 (Nat.le_trans hs286 (Nat.le_trans hs288 hs290)))))))
          replace hX276 := hgr328.ext _ hX276 (Nat.le_trans hs281 (Nat.le_trans hs284 (Nat.le_trans hs286 (Nat.le_trans hs288 hs290))))
          replace hX282 := hgr328.ext _ hX282 (Nat.le_trans hs284 (Nat.le_trans hs286 (Nat.le_trans hs288 hs290)))
          replace hX289 := hgr328.ext _ hX289 hs290
          replace hX315 := hgr328.ext _ hX315 (Nat.le_refl _)
          have hs330 := hgr328.size
          have hl331 := own327.base g323 rfl; have hh332 := own327.lt g323 rfl
          refine pl_take (.slice (some ⟨g323, 0, none⟩) (i + 1) cap324) rfl (by kernel_rfl) (by kernel_rfl) (by kernel_rfl) (by kernel_rfl) ?_
          refine pl_nil ?_
          refine qw_block ?_
          refine qw_then ?_
          refine cw_clean [13, 15, 34, 41, 42] (ws' := [(13, .slice (some ⟨bp, op, none⟩) n9 cP), (15, .pointer (some ⟨O26, 0, none⟩)), (34, .slice (some ⟨bi, oi, none⟩) l.length fc278), (41, .slice (some ⟨g323, 0, none⟩) (i + 1) cap324), (42, .int .i64 (((i : Nat) : Int) : Int))]) (by kernel_rfl) (fun L => ?_)
          refine cw_plain ?_
          refine pl_take (.int .i64 (((i : Nat) : Int) : Int)) rfl (by kernel_rfl) (by kernel_rfl) (by kernel_rfl) (by kernel_rfl) ?_
          refine pl_take (.int .i64 (((i + 1 : Nat) : Int) : Int)) rfl (by kernel_rfl) (by kernel_rfl) (by kernel_rfl) (ev_wrap (by kernel_rfl) (by omega) (by omega)) ?_
          refine pl_take (.int .i64 (((i + 1 : Nat) : Int) : Int)) rfl (by kernel_rfl) (by kernel_rfl) (by kernel_rfl) (by kernel_rfl) ?_
          refine pl_nil ?_
          refine qw_round [13, 15, 34, 41, 42] (ws' := [(13, .slice (some ⟨bp, op, none⟩) n9 cP), (15, .pointer (some ⟨O26, 0, none⟩)), (34, .slice (some ⟨bi, oi, none⟩) l.length fc278), (41, .slice (some ⟨g323, 0, none⟩) (i + 1) cap324), (42, .int .i64 (((i + 1 : Nat) : Int) : Int))]) (by kernel_rfl) _ ?_ ⟨(i + 1), (some ⟨g323, 0, none⟩), cap324, rfl, rfl, (Nat.le_trans hs316 (Nat.le_trans hs321 hs330)), hE, hX19, hX211, hX262, hX276, hX282, hX289, hX315, (by rw [rawC_step hD hx9]; exact own327), by omega⟩
          omega
        ·
          have hil : i = l.length := by omega
          refine cw_seq ?_
          refine cw_seq ?_
          refine cw_plain ?_
          refine pl_take (.int .i64 (((i : Nat) : Int) : Int)) rfl (by kernel_rfl) (by kernel_rfl) (by kernel_rfl) (by kernel_rfl) ?_
          refine pl_take (.slice fa277 l.length fc278) rfl (by kernel_rfl) (by kernel_rfl) (by kernel_rfl) (by kernel_rfl) ?_
          refine pl_take (.int .i64 (((l.length : Nat) : Int) : Int)) rfl (by kernel_rfl) (by kernel_rfl) (by kernel_rfl) (by kernel_rfl) ?_
          refine pl_take (.bool false) rfl (by kernel_rfl) (by kernel_rfl) (by kernel_rfl) (ev_ndec (show _ = Result.ok (Next.value (Value.bool (decide ((((i : Nat) : Int) : Int) < (((l.length : Nat) : Int) : Int))))) _ from by kernel_rfl) (by omega)) ?_
          refine pl_nil ?_
          refine qw_then ?_
          refine cw_f (by kernel_rfl) ?_
          refine cw_exit ?_
          refine qw_then_exit ?_
          refine qw_then_exit ?_
          refine qw_block_out ?_
          refine qw_then ?_
          refine cw_seq ?_
          refine cw_plain ?_
          refine pl_take (.agg #[.slice (some ⟨B9, 0, none⟩) 24 k9]) rfl (by kernel_rfl) (by kernel_rfl) (by kernel_rfl) (ex_load rfl (by kernel_rfl) (ld33 ((BoxAt.ext hX211 zA9).1))) ?_
          refine pl_take (.slice aC i cC) rfl (by kernel_rfl) (by kernel_rfl) (by kernel_rfl) (by kernel_rfl) ?_
          have hPT335 : PcsAt w317 aC i (Top.cho ys l) := ⟨rawC rs l, by have := own_raws9 ownC (rawC_len rs hi) (by omega); rw [hil, List.take_length] at this; rw [hil]; exact this, (reads_cho hrd hcl9).ext hX211⟩
          have hcC := own_cap9 ownC (rawC_len rs hi)
          refine pl_step rfl (by kernel_rfl) (by kernel_rfl) (by kernel_rfl) (sn_call (f := 13) (args := #[.int .i64 1, .agg #[.slice (some ⟨B9, 0, none⟩) 24 k9], .slice aC i cC]) (by kernel_rfl) (((Build_c (id := 1) (l := Top.cho ys l) _ _ hcC (aa_q (vA9.aa)) hX211 hPT335 (Ext.refl _) (hT.ext hE)).mono fun _ _ h => h.eq (Top.cho_build hAll hvA hl9) rfl rfl).mono ?_))
          rintro e w350 ⟨a336, n337, k338, a339, n340, c341, rfl, hA342, hfr343, hP344, hnc345, hpl346, hb⟩
          replace hE := hE.trans hb
          replace hX19 := hX19.trans hb
          replace hX211 := hX211.trans hb
          replace hX262 := hX262.trans hb
          replace hX276 := hX276.trans hb
          replace hX282 := hX282.trans hb
          replace hX289 := hX289.trans hb
          replace hX315 := hX315.trans hb
          have hs351 := hb.size
          clear hb
          obtain ⟨b347, o348, rfl, rfl, hV349⟩ := va_of hA342 (hvA)
          have hfr343l := hfr343 _ rfl
          have lt352 := hV349.lt
          have hP344n : PcsS (fun k => w317.heap.size ≤ k ∧ k < w350.heap.size) w350 a339 n340 (Prod.divide A (Top.cho ys l)) := PcsS.both hP344
          refine ⟨_, rfl, ?_⟩
          refine pl_take (.tuple #[.agg #[.int .i64 1, .int .i64 1, .slice (some ⟨b347, o348, none⟩) 24 k338, .slice a339 n340 c341], .int .i64 0]) rfl (by kernel_rfl) (by kernel_rfl) (by kernel_rfl) (by kernel_rfl) ?_
          refine pl_take (.agg #[.int .i64 1, .int .i64 1, .slice (some ⟨b347, o348, none⟩) 24 k338, .slice a339 n340 c341]) rfl (by kernel_rfl) (by kernel_rfl) (by kernel_rfl) (by kernel_rfl) ?_
          refine pl_take (.int .i64 0) rfl (by kernel_rfl) (by kernel_rfl) (by kernel_rfl) (by kernel_rfl) ?_
          refine pl_step rfl (by kernel_rfl) (by kernel_rfl) (by kernel_rfl) (sn_new (us := #[.int .i64 0, .int .i64 0, .slice none 0 0, .slice none 0 0]) (t := 53) (by kernel_rfl) ?_)
          intro O353 X354 hO hOs hb hbx
          have hzO353 := hO; have hyO353 := hOs; clear hO hOs
          have bO353_0 : BoxAt X354 O353 0 (.int .i64 0) := hbx 0 _ rfl
          have bO353_1 : BoxAt X354 O353 1 (.int .i64 0) := hbx 1 _ rfl
          have bO353_2 : BoxAt X354 O353 2 (.slice none 0 0) := hbx 2 _ rfl
          have bO353_3 : BoxAt X354 O353 3 (.slice none 0 0) := hbx 3 _ rfl
          clear hbx
          replace hE := hE.trans hb
          replace hX19 := hX19.trans hb
          replace hX211 := hX211.trans hb
          replace hX262 := hX262.trans hb
          replace hX276 := hX276.trans hb
          replace hX282 := hX282.trans hb
          replace hX289 := hX289.trans hb
          replace hX315 := hX315.trans hb
          replace hV349 := hV349.ext hb
          replace hP344n := hP344n.ext hb
          have hs355 := hb.size
          clear hb
          have lt356 := bO353_0.lt
          refine pl_put rfl (by kernel_rfl) (by kernel_rfl) (sn_setK4 (O := O353) (j := 0) (v0 := .int .i64 1) (v1 := .int .i64 1) (v2 := .slice (some ⟨b347, o348, none⟩) 24 k338) (v3 := .slice a339 n340 c341) (ex_store (p := .pointer (some ⟨O353, 0, none⟩)) (v := .agg #[.int .i64 1, .int .i64 1, .slice (some ⟨b347, o348, none⟩) 24 k338, .slice a339 n340 c341]) rfl (by kernel_rfl) (by kernel_rfl) (st53 bO353_0.1 bO353_0.2 bO353_1.1 bO353_1.2 bO353_2.1 bO353_2.2 bO353_3.1 bO353_3.2)) bO353_0 bO353_1 bO353_2 bO353_3 ?_)
          intro X357 ho hv0 hv1 hv2 hv3 hk
          replace hE := ho.ext hE (Nat.le_trans (Nat.le_trans hs3 (Nat.le_trans hs7 (Nat.le_trans hs10 (Nat.le_trans hs12 (Nat.le_trans hs14 (Nat.le_trans hs17 (Nat.le_trans hs24 (Nat.le_trans hs28 (Nat.le_trans hs31 (Nat.le_trans hs32 (Nat.le_trans hs223 (Nat.le_trans hs228 (Nat.le_trans hs232 (Nat.le_trans hs235 (Nat.le_trans hs237 (Nat.le_trans hs253 (Nat.le_trans hs257 (Nat.le_trans hs260 (Nat.le_trans hs268 (Nat.le_trans hs272 (Nat.le_trans hs275 (Nat.le_trans hs281 (Nat.le_trans hs284 (Nat.le_trans hs286 (Nat.le_trans hs288 (Nat.le_trans hs290 (Nat.le_trans hs316 hs351))))))))))))))))))))))))))) (Nat.le_of_eq hzO353))
          replace hX19 := ho.ext hX19 (Nat.le_trans (Nat.le_trans hs24 (Nat.le_trans hs28 (Nat.le_trans hs31 (Nat.le_trans hs32 (Nat.le_trans hs223 (Nat.le_trans hs228 (Nat.le_trans hs232 (Nat.le_trans hs235 (Nat.le_trans hs237 (Nat.le_trans hs253 (Nat.le_trans hs257 (Nat.le_trans hs260 (Nat.le_trans hs268 (Nat.le_trans hs272 (Nat.le_trans hs275 (Nat.le_trans hs281 (Nat.le_trans hs284 (Nat.le_trans hs286 (Nat.le_trans hs288 (Nat.le_trans hs290 (Nat.le_trans hs316 hs351))))))))))))))))))))) (Nat.le_of_eq hzO353))
          replace hX211 := ho.ext hX211 (Nat.le_trans (Nat.le_trans hs223 (Nat.le_trans hs228 (Nat.le_trans hs232 (Nat.le_trans hs235 (Nat.le_trans hs237 (Nat.le_trans hs253 (Nat.le_trans hs257 (Nat.le_trans hs260 (Nat.le_trans hs268 (Nat.le_trans hs272 (Nat.le_trans hs275 (Nat.le_trans hs281 (Nat.le_trans hs284 (Nat.le_trans hs286 (Nat.le_trans hs288 (Nat.le_trans hs290 (Nat.le_trans hs316 hs351))))))))))))))))) (Nat.le_of_eq hzO353))
          replace hX262 := ho.ext hX262 (Nat.le_trans (Nat.le_trans hs268 (Nat.le_trans hs272 (Nat.le_trans hs275 (Nat.le_trans hs281 (Nat.le_trans hs284 (Nat.le_trans hs286 (Nat.le_trans hs288 (Nat.le_trans hs290 (Nat.le_trans hs316 hs351))))))))) (Nat.le_of_eq hzO353))
          replace hX276 := ho.ext hX276 (Nat.le_trans (Nat.le_trans hs281 (Nat.le_trans hs284 (Nat.le_trans hs286 (Nat.le_trans hs288 (Nat.le_trans hs290 (Nat.le_trans hs316 hs351)))))) (Nat.le_of_eq hzO353))
          replace hX282 := ho.ext hX282 (Nat.le_trans (Nat.le_trans hs284 (Nat.le_trans hs286 (Nat.le_trans hs288 (Nat.le_trans hs290 (Nat.le_trans hs316 hs351))))) (Nat.le_of_eq hzO353))
          replace hX289 := ho.ext hX289 (Nat.le_trans (Nat.le_trans hs290 (Nat.le_trans hs316 hs351)) (Nat.le_of_eq hzO353))
          replace hX315 := ho.ext hX315 (Nat.le_trans (Nat.le_trans hs316 hs351) (Nat.le_of_eq hzO353))
          replace hV349 := ho.va (Nat.ne_of_gt (Nat.lt_of_lt_of_le lt352 (Nat.le_of_eq hzO353))) hV349
          replace hP344n := hP344n.turn ho (fun h => absurd h.2 (Nat.not_lt_of_le (Nat.le_of_eq hzO353)))
          have hs358 : X354.heap.size ≤ X357.heap.size := Nat.le_of_eq ho.size.symm
          clear ho hk bO353_0 bO353_1 bO353_2 bO353_3
          have bO353_0 := hv0; clear hv0
          have bO353_1 := hv1; clear hv1
          have bO353_2 := hv2; clear hv2
          have bO353_3 := hv3; clear hv3
          refine pl_take (.int .i64 0) rfl (by kernel_rfl) (by kernel_rfl) (by kernel_rfl) (by kernel_rfl) ?_
          refine pl_nil ?_
          refine qw_then ?_
          refine cw_clean [43, 44] (ws' := [(43, .pointer (some ⟨O353, 0, none⟩)), (44, .int .i64 0)]) (by kernel_rfl) (fun L => ?_)
          refine cw_seq ?_
          have hPx359 := PcsS.pcs hP344n
          have hX360 : Ext X357 X357 := Ext.refl _
          refine cw_plain ?_
          refine pl_take (.int .i64 0) rfl (by kernel_rfl) (by kernel_rfl) (by kernel_rfl) (by kernel_rfl) ?_
          refine pl_take (.bool true) rfl (by kernel_rfl) (by kernel_rfl) (by kernel_rfl) (by kernel_rfl) ?_
          refine pl_take (.bool true) rfl (by kernel_rfl) (by kernel_rfl) (by kernel_rfl) (by kernel_rfl) ?_
          refine pl_take (.agg #[.int .i64 1, .int .i64 1, .slice (some ⟨b347, o348, none⟩) 24 k338, .slice a339 n340 c341]) rfl (by kernel_rfl) (by kernel_rfl) (by kernel_rfl) (ex_load rfl (by kernel_rfl) (ld53 (bO353_0.1) (bO353_1.1) (bO353_2.1) (bO353_3.1))) ?_
          refine pl_step rfl (by kernel_rfl) (by kernel_rfl) (by kernel_rfl) (sn_call (f := 17) (args := #[.agg #[.int .i64 1, .int .i64 1, .slice (some ⟨b347, o348, none⟩) 24 k338, .slice a339 n340 c341]]) (by kernel_rfl) ((Complete_r (r := true) (id := 1) (ver := 1) _ _ (by omega) (aa_q (hV349.aa)) (Ext.refl _) (hPx359) (Ext.refl _) (hT.ext hE) (Top.cho_complete hAll hvA hl9)).mono ?_))
          rintro e w361 ⟨rfl, hb⟩
          replace hE := hE.trans hb
          replace hX19 := hX19.trans hb
          replace hX211 := hX211.trans hb
          replace hX262 := hX262.trans hb
          replace hX276 := hX276.trans hb
          replace hX282 := hX282.trans hb
          replace hX289 := hX289.trans hb
          replace hX315 := hX315.trans hb
          replace hX360 := hX360.trans hb
          replace hV349 := hV349.ext hb
          replace bO353_0 := BoxAt.ext hb bO353_0
          replace bO353_1 := BoxAt.ext hb bO353_1
          replace bO353_2 := BoxAt.ext hb bO353_2
          replace bO353_3 := BoxAt.ext hb bO353_3
          have hs362 := hb.size
          clear hb
          refine ⟨_, rfl, ?_⟩
          refine pl_take (.bool true) rfl (by kernel_rfl) (by kernel_rfl) (by kernel_rfl) (by kernel_rfl) ?_
          refine pl_take (.bool true) rfl (by kernel_rfl) (by kernel_rfl) (by kernel_rfl) (by kernel_rfl) ?_
          refine pl_nil ?_
          refine qw_then ?_
          refine cw_ret ?_
          refine qw_ret [.bool true] rfl ⟨(by kernel_rfl), trivial⟩ ?_
          exact ⟨rfl, hE⟩

end Go.Proofs.YtajdohcgjgknmaaGreatDoor
