/- Part 3 of what the proof of SwathCells stands on. -/
import Derived.Test.YtdjjkhefdalokaaDoorV2SwathCells
import Derived.Deep.RegionHeld3
import Derived.ChangeKeysEq
import Derived.Deep.MidRow
import Derived.OwnWalk
/- Contracts of package orbit: Could, Must. -/
namespace Go.Proofs.YtdjjkhefdalokaaDoor
open Go.RowKit

/-- The cells in which a satellite could be, after the first i delays. -/
def visL (o : Orb) (t : Int) : Nat → List ((Nat × Nat) × Bool)
  | 0 => []
  | i + 1 => updM (Orb.cx o (t - (-o.sl + ((i : Nat) : Int))), Orb.cy o (t - (-o.sl + ((i : Nat) : Int)))) true (visL o t i)
theorem visL_len (o : Orb) (t : Int) : ∀ i, (visL o t i).length ≤ i
  | 0 => Nat.le_refl _
  | i + 1 => by
    have h := visL_len o t i
    have k : ∀ (x : Nat × Nat) (l : List ((Nat × Nat) × Bool)), (updM x true l).length ≤ l.length + 1 := fun x l => by
      induction l with
      | nil => simp [updM]
      | cons p r ih => unfold updM; split <;> simp <;> omega
    have := k (Orb.cx o (t - (-o.sl + ((i : Nat) : Int))), Orb.cy o (t - (-o.sl + ((i : Nat) : Int)))) (visL o t i)
    unfold visL; omega
theorem visL_mem (o : Orb) (t : Int) : ∀ {i j : Nat}, j < i → (Orb.cx o (t - (-o.sl + ((j : Nat) : Int))), Orb.cy o (t - (-o.sl + ((j : Nat) : Int)))) ∈ (visL o t i).map Prod.fst
  | i + 1, j, h => by
    unfold visL
    rw [keys_updM]
    rcases Nat.lt_or_ge j i with q | q
    · exact .inr (visL_mem o t q)
    · obtain rfl : j = i := by omega
      exact .inl rfl
/-- If there is one cell alone, a satellite is there, whatever its delay. -/
theorem must_is {o : Orb} {t : Int} {n : Nat} {rs : List (Nat × Nat)} (hn : rs.length = 1) (h : rs.Perm ((visL o t n).map Prod.fst)) {d : Int} (h0 : -o.sl ≤ d) (h1 : d < -o.sl + n) : (Orb.cx o (t - d), Orb.cy o (t - d)) = celN rs 0 := by
  obtain ⟨p, rfl⟩ := List.length_eq_one_iff.1 hn
  have h2 := visL_mem o t (i := n) (j := (d + o.sl).toNat) (by omega)
  rw [show -o.sl + (((d + o.sl).toNat : Nat) : Int) = d by omega] at h2
  have := h.mem_iff.2 h2
  simpa [celN] using this
theorem celsMv {n : Nat} {w w' : World} (h : Mv n w w') {a : Option Addr} {k : Nat} {l : List (Nat × Nat)} (hc : CelsAt w a k l) : CelsAt w' a k l :=
  ⟨hc.1, hc.2.imp id fun ⟨b, ha, hx⟩ => ⟨b, ha, fun i x hi => ⟨h.cell (hx i x hi).1, h.cell (hx i x hi).2⟩⟩⟩
set_option maxRecDepth 1000000 in
set_option maxHeartbeats 4000000 in
theorem Could_c {o : Orb} {t : Int} (w : World) (hat : Orb.atB o t 0 = true) : Calls Tryd.prog 34 #[.agg #[.int .i64 o.p, .int .i64 o.f, .int .i64 o.lo, .int .i64 o.hi, .int .i64 o.nd, .int .i64 o.tn, .int .i64 o.sl], .int .i64 t] w fun e w' => ∃ (a : Option Addr) (c : Nat) (rs : List (Nat × Nat)) (n : Nat), e = .returned (.tuple #[.slice a n c, .int .i64 0]) ∧ rs.Perm ((visL o t (2 * o.sl + 1).toNat).map Prod.fst) ∧ CelsAt w' a n rs ∧ (∀ g, a = some ⟨g, 0, none⟩ → w.heap.size ≤ g) ∧ Ext w w' := by
  have ha9 : (Globe.inB t 0 1000000 = true ∧ Globe.inB 0 (-10) 10 = true) ∧ Orb.ok o = true := by simpa [Orb.atB] using hat
  have h1 := Globe.inB_t.1 ha9.1.1
  have hok := ha9.2
  have hq0 := Orb.ok_t.1 hok
  refine icalls_cw 31 [(1, .int .i64 (t : Int)), (0, .agg #[.int .i64 (o.p : Int), .int .i64 (o.f : Int), .int .i64 (o.lo : Int), .int .i64 (o.hi : Int), .int .i64 (o.nd : Int), .int .i64 (o.tn : Int), .int .i64 (o.sl : Int)])] Tryd.func34 rfl Tryd.ntmps34 (by kernel_rfl) (by kernel_rfl) (fun L mm => ?_)
  have hE : Ext w w := Ext.refl w
  refine icw_seq ?_
  refine icw_plain ?_
  refine ipl_step rfl (by kernel_rfl) (by kernel_rfl) (by kernel_rfl) (sn_new (us := #[.int .i64 (o.p : Int), .int .i64 (o.f : Int), .int .i64 (o.lo : Int), .int .i64 (o.hi : Int), .int .i64 (o.nd : Int), .int .i64 (o.tn : Int), .int .i64 (o.sl : Int)]) (t := 26) (by kernel_rfl) ?_)
  intro O1 X2 hO hOs hb hbx
  have hzO1 := hO; have hyO1 := hOs; clear hO hOs
  have bO1_0 : BoxAt X2 O1 0 (.int .i64 (o.p : Int)) := hbx 0 _ rfl
  have bO1_1 : BoxAt X2 O1 1 (.int .i64 (o.f : Int)) := hbx 1 _ rfl
  have bO1_2 : BoxAt X2 O1 2 (.int .i64 (o.lo : Int)) := hbx 2 _ rfl
  have bO1_3 : BoxAt X2 O1 3 (.int .i64 (o.hi : Int)) := hbx 3 _ rfl
  have bO1_4 : BoxAt X2 O1 4 (.int .i64 (o.nd : Int)) := hbx 4 _ rfl
  have bO1_5 : BoxAt X2 O1 5 (.int .i64 (o.tn : Int)) := hbx 5 _ rfl
  have bO1_6 : BoxAt X2 O1 6 (.int .i64 (o.sl : Int)) := hbx 6 _ rfl
  clear hbx
  replace hE := hE.trans hb
  have hs3 := hb.size
  clear hb
  have lt4 := bO1_0.lt
  refine ipl_take (.slice none 0 0) rfl (by kernel_rfl) (by kernel_rfl) (by kernel_rfl) (by kernel_rfl) ?_
  refine ipl_take (.int .i64 0) rfl (by kernel_rfl) (by kernel_rfl) (by kernel_rfl) (by kernel_rfl) ?_
  refine ipl_nil ?_
  refine iqw_then ?_
  refine icw_seq ?_
  refine icw_seq ?_
  refine icw_plain ?_
  refine ipl_take (.agg #[.int .i64 (o.p : Int), .int .i64 (o.f : Int), .int .i64 (o.lo : Int), .int .i64 (o.hi : Int), .int .i64 (o.nd : Int), .int .i64 (o.tn : Int), .int .i64 (o.sl : Int)]) rfl (by kernel_rfl) (by kernel_rfl) (by kernel_rfl) (ex_load rfl (by kernel_rfl) (ld26 (bO1_0.1) (bO1_1.1) (bO1_2.1) (bO1_3.1) (bO1_4.1) (bO1_5.1) (bO1_6.1))) ?_
  refine ipl_take (.int .i64 (t : Int)) rfl (by kernel_rfl) (by kernel_rfl) (by kernel_rfl) (by kernel_rfl) ?_
  refine ipl_step rfl (by kernel_rfl) (by kernel_rfl) (by kernel_rfl) (sn_call (f := 23) (args := #[.agg #[.int .i64 (o.p : Int), .int .i64 (o.f : Int), .int .i64 (o.lo : Int), .int .i64 (o.hi : Int), .int .i64 (o.nd : Int), .int .i64 (o.tn : Int), .int .i64 (o.sl : Int)], .int .i64 (t : Int), .int .i64 0]) (by kernel_rfl) ((at_y o t 0 _ (hat)).mono ?_))
  rintro e w5 ⟨rfl, hb⟩
  replace hE := hE.trans hb
  replace bO1_0 := BoxAt.ext hb bO1_0
  replace bO1_1 := BoxAt.ext hb bO1_1
  replace bO1_2 := BoxAt.ext hb bO1_2
  replace bO1_3 := BoxAt.ext hb bO1_3
  replace bO1_4 := BoxAt.ext hb bO1_4
  replace bO1_5 := BoxAt.ext hb bO1_5
  replace bO1_6 := BoxAt.ext hb bO1_6
  have hs6 := hb.size
  clear hb
  refine ⟨_, rfl, ?_⟩
  refine ipl_take (.tuple #[.agg #[.int .i64 (o.p : Int), .int .i64 (o.f : Int), .int .i64 (o.lo : Int), .int .i64 (o.hi : Int), .int .i64 (o.nd : Int), .int .i64 (o.tn : Int), .int .i64 (o.sl : Int), .int .i64 (t - 0 : Int)], .bool true]) rfl (by kernel_rfl) (by kernel_rfl) (by kernel_rfl) (by kernel_rfl) ?_
  refine ipl_take (.agg #[.int .i64 (o.p : Int), .int .i64 (o.f : Int), .int .i64 (o.lo : Int), .int .i64 (o.hi : Int), .int .i64 (o.nd : Int), .int .i64 (o.tn : Int), .int .i64 (o.sl : Int), .int .i64 (t - 0 : Int)]) rfl (by kernel_rfl) (by kernel_rfl) (by kernel_rfl) (by kernel_rfl) ?_
  refine ipl_take (.bool true) rfl (by kernel_rfl) (by kernel_rfl) (by kernel_rfl) (by kernel_rfl) ?_
  refine ipl_step rfl (by kernel_rfl) (by kernel_rfl) (by kernel_rfl) (sn_new (us := #[.int .i64 0, .int .i64 0, .int .i64 0, .int .i64 0, .int .i64 0, .int .i64 0, .int .i64 0, .int .i64 0]) (t := 61) (by kernel_rfl) ?_)
  intro O7 X8 hO hOs hb hbx
  have hzO7 := hO; have hyO7 := hOs; clear hO hOs
  have bO7_0 : BoxAt X8 O7 0 (.int .i64 0) := hbx 0 _ rfl
  have bO7_1 : BoxAt X8 O7 1 (.int .i64 0) := hbx 1 _ rfl
  have bO7_2 : BoxAt X8 O7 2 (.int .i64 0) := hbx 2 _ rfl
  have bO7_3 : BoxAt X8 O7 3 (.int .i64 0) := hbx 3 _ rfl
  have bO7_4 : BoxAt X8 O7 4 (.int .i64 0) := hbx 4 _ rfl
  have bO7_5 : BoxAt X8 O7 5 (.int .i64 0) := hbx 5 _ rfl
  have bO7_6 : BoxAt X8 O7 6 (.int .i64 0) := hbx 6 _ rfl
  have bO7_7 : BoxAt X8 O7 7 (.int .i64 0) := hbx 7 _ rfl
  clear hbx
  replace hE := hE.trans hb
  replace bO1_0 := BoxAt.ext hb bO1_0
  replace bO1_1 := BoxAt.ext hb bO1_1
  replace bO1_2 := BoxAt.ext hb bO1_2
  replace bO1_3 := BoxAt.ext hb bO1_3
  replace bO1_4 := BoxAt.ext hb bO1_4
  replace bO1_5 := BoxAt.ext hb bO1_5
  replace bO1_6 := BoxAt.ext hb bO1_6
  have hs9 := hb.size
  clear hb
  have lt10 := bO7_0.lt
  refine ipl_put rfl (by kernel_rfl) (by kernel_rfl) (sn_setK8 (O := O7) (j := 0) (v0 := .int .i64 (o.p : Int)) (v1 := .int .i64 (o.f : Int)) (v2 := .int .i64 (o.lo : Int)) (v3 := .int .i64 (o.hi : Int)) (v4 := .int .i64 (o.nd : Int)) (v5 := .int .i64 (o.tn : Int)) (v6 := .int .i64 (o.sl : Int)) (v7 := .int .i64 (t - 0 : Int)) (ex_store (p := .pointer (some ⟨O7, 0, none⟩)) (v := .agg #[.int .i64 (o.p : Int), .int .i64 (o.f : Int), .int .i64 (o.lo : Int), .int .i64 (o.hi : Int), .int .i64 (o.nd : Int), .int .i64 (o.tn : Int), .int .i64 (o.sl : Int), .int .i64 (t - 0 : Int)]) rfl (by kernel_rfl) (by kernel_rfl) (st61 bO7_0.1 bO7_0.2 bO7_1.1 bO7_1.2 bO7_2.1 bO7_2.2 bO7_3.1 bO7_3.2 bO7_4.1 bO7_4.2 bO7_5.1 bO7_5.2 bO7_6.1 bO7_6.2 bO7_7.1 bO7_7.2)) bO7_0 bO7_1 bO7_2 bO7_3 bO7_4 bO7_5 bO7_6 bO7_7 ?_)
  intro X11 ho hv0 hv1 hv2 hv3 hv4 hv5 hv6 hv7 hk
  replace hE := ho.ext hE (Nat.le_trans (Nat.le_trans hs3 hs6) (Nat.le_of_eq hzO7))
  replace bO1_0 := ho.box (Nat.ne_of_gt (Nat.lt_of_lt_of_le lt4 (Nat.le_trans hs6 (Nat.le_of_eq hzO7)))) bO1_0
  replace bO1_1 := ho.box (Nat.ne_of_gt (Nat.lt_of_lt_of_le lt4 (Nat.le_trans hs6 (Nat.le_of_eq hzO7)))) bO1_1
  replace bO1_2 := ho.box (Nat.ne_of_gt (Nat.lt_of_lt_of_le lt4 (Nat.le_trans hs6 (Nat.le_of_eq hzO7)))) bO1_2
  replace bO1_3 := ho.box (Nat.ne_of_gt (Nat.lt_of_lt_of_le lt4 (Nat.le_trans hs6 (Nat.le_of_eq hzO7)))) bO1_3
  replace bO1_4 := ho.box (Nat.ne_of_gt (Nat.lt_of_lt_of_le lt4 (Nat.le_trans hs6 (Nat.le_of_eq hzO7)))) bO1_4
  replace bO1_5 := ho.box (Nat.ne_of_gt (Nat.lt_of_lt_of_le lt4 (Nat.le_trans hs6 (Nat.le_of_eq hzO7)))) bO1_5
  replace bO1_6 := ho.box (Nat.ne_of_gt (Nat.lt_of_lt_of_le lt4 (Nat.le_trans hs6 (Nat.le_of_eq hzO7)))) bO1_6
  have hs12 : X8.heap.size ≤ X11.heap.size := Nat.le_of_eq ho.size.symm
  clear ho hk bO7_0 bO7_1 bO7_2 bO7_3 bO7_4 bO7_5 bO7_6 bO7_7
  have bO7_0 := hv0; clear hv0
  have bO7_1 := hv1; clear hv1
  have bO7_2 := hv2; clear hv2
  have bO7_3 := hv3; clear hv3
  have bO7_4 := hv4; clear hv4
  have bO7_5 := hv5; clear hv5
  have bO7_6 := hv6; clear hv6
  have bO7_7 := hv7; clear hv7
  refine ipl_take (.bool true) rfl (by kernel_rfl) (by kernel_rfl) (by kernel_rfl) (by kernel_rfl) ?_
  refine ipl_nil ?_
  refine iqw_then ?_
  refine icw_seq ?_
  refine icw_plain ?_
  refine ipl_take (.bool true) rfl (by kernel_rfl) (by kernel_rfl) (by kernel_rfl) (by kernel_rfl) ?_
  refine ipl_take (.bool false) rfl (by kernel_rfl) (by kernel_rfl) (by kernel_rfl) (by kernel_rfl) ?_
  refine ipl_nil ?_
  refine iqw_then ?_
  refine icw_clean [1, 2, 18] (ws' := [(1, .int .i64 (t : Int)), (2, .pointer (some ⟨O1, 0, none⟩)), (18, .bool false)]) (by kernel_rfl) (fun L => ?_)
  refine icw_f (by kernel_rfl) ?_
  refine icw_skip ?_
  refine iqw_then ?_
  refine icw_seq ?_
  refine icw_plain ?_
  refine ipl_step rfl (by kernel_rfl) (by kernel_rfl) (by kernel_rfl) (sn_map celV booV (by kernel_rfl) ?_)
  intro O13 X14 hO hOs hb hm15
  have hzO13 := hO; have hyO13 := hOs; clear hO hOs
  replace hE := hE.trans hb
  replace bO1_0 := BoxAt.ext hb bO1_0
  replace bO1_1 := BoxAt.ext hb bO1_1
  replace bO1_2 := BoxAt.ext hb bO1_2
  replace bO1_3 := BoxAt.ext hb bO1_3
  replace bO1_4 := BoxAt.ext hb bO1_4
  replace bO1_5 := BoxAt.ext hb bO1_5
  replace bO1_6 := BoxAt.ext hb bO1_6
  replace bO7_0 := BoxAt.ext hb bO7_0
  replace bO7_1 := BoxAt.ext hb bO7_1
  replace bO7_2 := BoxAt.ext hb bO7_2
  replace bO7_3 := BoxAt.ext hb bO7_3
  replace bO7_4 := BoxAt.ext hb bO7_4
  replace bO7_5 := BoxAt.ext hb bO7_5
  replace bO7_6 := BoxAt.ext hb bO7_6
  replace bO7_7 := BoxAt.ext hb bO7_7
  have hs16 := hb.size
  clear hb
  have lt17 := hm15.lt
  refine ipl_step rfl (by kernel_rfl) (by kernel_rfl) (by kernel_rfl) (sn_new (us := #[.map none]) (t := 101) (by kernel_rfl) ?_)
  intro O18 X19 hO hOs hb hbx
  have hzO18 := hO; have hyO18 := hOs; clear hO hOs
  have bO18_0 : BoxAt X19 O18 0 (.map none) := hbx 0 _ rfl
  clear hbx
  replace hE := hE.trans hb
  replace bO1_0 := BoxAt.ext hb bO1_0
  replace bO1_1 := BoxAt.ext hb bO1_1
  replace bO1_2 := BoxAt.ext hb bO1_2
  replace bO1_3 := BoxAt.ext hb bO1_3
  replace bO1_4 := BoxAt.ext hb bO1_4
  replace bO1_5 := BoxAt.ext hb bO1_5
  replace bO1_6 := BoxAt.ext hb bO1_6
  replace bO7_0 := BoxAt.ext hb bO7_0
  replace bO7_1 := BoxAt.ext hb bO7_1
  replace bO7_2 := BoxAt.ext hb bO7_2
  replace bO7_3 := BoxAt.ext hb bO7_3
  replace bO7_4 := BoxAt.ext hb bO7_4
  replace bO7_5 := BoxAt.ext hb bO7_5
  replace bO7_6 := BoxAt.ext hb bO7_6
  replace bO7_7 := BoxAt.ext hb bO7_7
  replace hm15 := hm15.ext hb
  have hs20 := hb.size
  clear hb
  have lt21 := bO18_0.lt
  refine ipl_put rfl (by kernel_rfl) (by kernel_rfl) (sn_set (O := O18) (j := 0) (v := .map (some O13)) (ex_store (p := .pointer (some ⟨O18, 0, none⟩)) (v := .map (some O13)) rfl (by kernel_rfl) (by kernel_rfl) (st101 bO18_0.1 bO18_0.2)) bO18_0 ?_)
  intro X22 ho hv0 hk
  replace hE := ho.ext hE (Nat.le_trans (Nat.le_trans hs3 (Nat.le_trans hs6 (Nat.le_trans hs9 (Nat.le_trans hs12 hs16)))) (Nat.le_of_eq hzO18))
  replace bO1_0 := ho.box (Nat.ne_of_gt (Nat.lt_of_lt_of_le lt4 (Nat.le_trans (Nat.le_trans hs6 (Nat.le_trans hs9 (Nat.le_trans hs12 hs16))) (Nat.le_of_eq hzO18)))) bO1_0
  replace bO1_1 := ho.box (Nat.ne_of_gt (Nat.lt_of_lt_of_le lt4 (Nat.le_trans (Nat.le_trans hs6 (Nat.le_trans hs9 (Nat.le_trans hs12 hs16))) (Nat.le_of_eq hzO18)))) bO1_1
  replace bO1_2 := ho.box (Nat.ne_of_gt (Nat.lt_of_lt_of_le lt4 (Nat.le_trans (Nat.le_trans hs6 (Nat.le_trans hs9 (Nat.le_trans hs12 hs16))) (Nat.le_of_eq hzO18)))) bO1_2
  replace bO1_3 := ho.box (Nat.ne_of_gt (Nat.lt_of_lt_of_le lt4 (Nat.le_trans (Nat.le_trans hs6 (Nat.le_trans hs9 (Nat.le_trans hs12 hs16))) (Nat.le_of_eq hzO18)))) bO1_3
  replace bO1_4 := ho.box (Nat.ne_of_gt (Nat.lt_of_lt_of_le lt4 (Nat.le_trans (Nat.le_trans hs6 (Nat.le_trans hs9 (Nat.le_trans hs12 hs16))) (Nat.le_of_eq hzO18)))) bO1_4
  replace bO1_5 := ho.box (Nat.ne_of_gt (Nat.lt_of_lt_of_le lt4 (Nat.le_trans (Nat.le_trans hs6 (Nat.le_trans hs9 (Nat.le_trans hs12 hs16))) (Nat.le_of_eq hzO18)))) bO1_5
  replace bO1_6 := ho.box (Nat.ne_of_gt (Nat.lt_of_lt_of_le lt4 (Nat.le_trans (Nat.le_trans hs6 (Nat.le_trans hs9 (Nat.le_trans hs12 hs16))) (Nat.le_of_eq hzO18)))) bO1_6
  replace bO7_0 := ho.box (Nat.ne_of_gt (Nat.lt_of_lt_of_le lt10 (Nat.le_trans (Nat.le_trans hs12 hs16) (Nat.le_of_eq hzO18)))) bO7_0
  replace bO7_1 := ho.box (Nat.ne_of_gt (Nat.lt_of_lt_of_le lt10 (Nat.le_trans (Nat.le_trans hs12 hs16) (Nat.le_of_eq hzO18)))) bO7_1
  replace bO7_2 := ho.box (Nat.ne_of_gt (Nat.lt_of_lt_of_le lt10 (Nat.le_trans (Nat.le_trans hs12 hs16) (Nat.le_of_eq hzO18)))) bO7_2
  replace bO7_3 := ho.box (Nat.ne_of_gt (Nat.lt_of_lt_of_le lt10 (Nat.le_trans (Nat.le_trans hs12 hs16) (Nat.le_of_eq hzO18)))) bO7_3
  replace bO7_4 := ho.box (Nat.ne_of_gt (Nat.lt_of_lt_of_le lt10 (Nat.le_trans (Nat.le_trans hs12 hs16) (Nat.le_of_eq hzO18)))) bO7_4
  replace bO7_5 := ho.box (Nat.ne_of_gt (Nat.lt_of_lt_of_le lt10 (Nat.le_trans (Nat.le_trans hs12 hs16) (Nat.le_of_eq hzO18)))) bO7_5
  replace bO7_6 := ho.box (Nat.ne_of_gt (Nat.lt_of_lt_of_le lt10 (Nat.le_trans (Nat.le_trans hs12 hs16) (Nat.le_of_eq hzO18)))) bO7_6
  replace bO7_7 := ho.box (Nat.ne_of_gt (Nat.lt_of_lt_of_le lt10 (Nat.le_trans (Nat.le_trans hs12 hs16) (Nat.le_of_eq hzO18)))) bO7_7
  replace hm15 := hm15.block (ho.heap' _ (Nat.ne_of_lt (Nat.lt_of_lt_of_le lt17 (Nat.le_of_eq hzO18))))
  have hs23 : X19.heap.size ≤ X22.heap.size := Nat.le_of_eq ho.size.symm
  clear ho hk bO18_0
  have bO18_0 := hv0; clear hv0
  refine ipl_nil ?_
  refine iqw_then ?_
  refine icw_seq ?_
  refine icw_seq ?_
  refine icw_plain ?_
  refine ipl_take (.agg #[.int .i64 (o.p : Int), .int .i64 (o.f : Int), .int .i64 (o.lo : Int), .int .i64 (o.hi : Int), .int .i64 (o.nd : Int), .int .i64 (o.tn : Int), .int .i64 (o.sl : Int)]) rfl (by kernel_rfl) (by kernel_rfl) (by kernel_rfl) (ex_load rfl (by kernel_rfl) (ld26 (bO1_0.1) (bO1_1.1) (bO1_2.1) (bO1_3.1) (bO1_4.1) (bO1_5.1) (bO1_6.1))) ?_
  refine ipl_take (.int .i64 (t : Int)) rfl (by kernel_rfl) (by kernel_rfl) (by kernel_rfl) (by kernel_rfl) ?_
  refine ipl_step rfl (by kernel_rfl) (by kernel_rfl) (by kernel_rfl) (sn_call (f := 55) (args := #[.agg #[.int .i64 (o.p : Int), .int .i64 (o.f : Int), .int .i64 (o.lo : Int), .int .i64 (o.hi : Int), .int .i64 (o.nd : Int), .int .i64 (o.tn : Int), .int .i64 (o.sl : Int)], .int .i64 (t : Int)]) (by kernel_rfl) ((odelays_c o t _).mono ?_))
  rintro e w29 ⟨B24, B25, rfl, ⟨hn26, hn27⟩, hD28, hb⟩
  replace hE := hE.trans hb
  replace bO1_0 := BoxAt.ext hb bO1_0
  replace bO1_1 := BoxAt.ext hb bO1_1
  replace bO1_2 := BoxAt.ext hb bO1_2
  replace bO1_3 := BoxAt.ext hb bO1_3
  replace bO1_4 := BoxAt.ext hb bO1_4
  replace bO1_5 := BoxAt.ext hb bO1_5
  replace bO1_6 := BoxAt.ext hb bO1_6
  replace bO7_0 := BoxAt.ext hb bO7_0
  replace bO7_1 := BoxAt.ext hb bO7_1
  replace bO7_2 := BoxAt.ext hb bO7_2
  replace bO7_3 := BoxAt.ext hb bO7_3
  replace bO7_4 := BoxAt.ext hb bO7_4
  replace bO7_5 := BoxAt.ext hb bO7_5
  replace bO7_6 := BoxAt.ext hb bO7_6
  replace bO7_7 := BoxAt.ext hb bO7_7
  replace hm15 := hm15.ext hb
  replace bO18_0 := BoxAt.ext hb bO18_0
  have hs30 := hb.size
  clear hb
  have hX31 : Ext w29 w29 := Ext.refl _
  refine ⟨_, rfl, ?_⟩
  refine ipl_nil ?_
  refine iqw_then ?_
  refine icw_block ?_
  refine icw_range (ps := [23]) (by kernel_rfl) (enters_of Tryd.func72 (by kernel_rfl) rfl) (odelays_seq (X := fun _ => False) hok h1.1 h1.2 (fun h => h) (fun h => h) hD28) (Ext.refl _) (fun _ => rfl) (by kernel_rfl) (fun i W => w29.heap.size ≤ W.heap.size ∧ Ext w W ∧ BoxAt W O1 0 (.int .i64 (o.p : Int)) ∧ BoxAt W O1 1 (.int .i64 (o.f : Int)) ∧ BoxAt W O1 2 (.int .i64 (o.lo : Int)) ∧ BoxAt W O1 3 (.int .i64 (o.hi : Int)) ∧ BoxAt W O1 4 (.int .i64 (o.nd : Int)) ∧ BoxAt W O1 5 (.int .i64 (o.tn : Int)) ∧ BoxAt W O1 6 (.int .i64 (o.sl : Int)) ∧ BoxAt W O7 0 (.int .i64 (o.p : Int)) ∧ BoxAt W O7 1 (.int .i64 (o.f : Int)) ∧ BoxAt W O7 2 (.int .i64 (o.lo : Int)) ∧ BoxAt W O7 3 (.int .i64 (o.hi : Int)) ∧ BoxAt W O7 4 (.int .i64 (o.nd : Int)) ∧ BoxAt W O7 5 (.int .i64 (o.tn : Int)) ∧ BoxAt W O7 6 (.int .i64 (o.sl : Int)) ∧ BoxAt W O7 7 (.int .i64 (t - 0 : Int)) ∧ BoxAt W O18 0 (.map (some O13)) ∧ MapS celV booV W O13 (visL o t i)) (fun _ _ _ => False) (fun i A B h hm => by obtain ⟨hsz, hE, bO1_0, bO1_1, bO1_2, bO1_3, bO1_4, bO1_5, bO1_6, bO7_0, bO7_1, bO7_2, bO7_3, bO7_4, bO7_5, bO7_6, bO7_7, bO18_0, hmp9⟩ := h; exact ⟨Nat.le_trans hsz hm.size, hm.ext hE (Nat.le_trans hs3 (Nat.le_trans hs6 (Nat.le_trans hs9 (Nat.le_trans hs12 (Nat.le_trans hs16 (Nat.le_trans hs20 (Nat.le_trans hs23 hs30))))))), hm.box bO1_0, hm.box bO1_1, hm.box bO1_2, hm.box bO1_3, hm.box bO1_4, hm.box bO1_5, hm.box bO1_6, hm.box bO7_0, hm.box bO7_1, hm.box bO7_2, hm.box bO7_3, hm.box bO7_4, hm.box bO7_5, hm.box bO7_6, hm.box bO7_7, hm.box bO18_0, hmp9.mv hm (Nat.lt_of_lt_of_le lt17 (Nat.le_trans hs20 (Nat.le_trans hs23 hs30)))⟩) (fun _ _ _ _ h _ => h.elim) ⟨Nat.le_refl _, hE, bO1_0, bO1_1, bO1_2, bO1_3, bO1_4, bO1_5, bO1_6, bO7_0, bO7_1, bO7_2, bO7_3, bO7_4, bO7_5, bO7_6, bO7_7, bO18_0, hm15⟩ ?_ ?_ ?_
  ·
    clear bO1_0 bO1_1 bO1_2 bO1_3 bO1_4 bO1_5 bO1_6 bO7_0 bO7_1 bO7_2 bO7_3 bO7_4 bO7_5 bO7_6 bO7_7 bO18_0 hE
    intro l34 k35 i w32 hii h _
    obtain ⟨hs33, hE, bO1_0, bO1_1, bO1_2, bO1_3, bO1_4, bO1_5, bO1_6, bO7_0, bO7_1, bO7_2, bO7_3, bO7_4, bO7_5, bO7_6, bO7_7, bO18_0, hmp9⟩ := h
    refine icw_clean [8, 23] (ws' := [(8, .pointer (some ⟨O18, 0, none⟩)), (23, .agg #[.int .i64 (o.p : Int), .int .i64 (o.f : Int), .int .i64 (o.lo : Int), .int .i64 (o.hi : Int), .int .i64 (o.nd : Int), .int .i64 (o.tn : Int), .int .i64 (o.sl : Int), .int .i64 (t - (-o.sl + ((i : Nat) : Int)) : Int)])]) (by kernel_rfl) (fun L => ?_)
    have hrk36 : RK w29.heap.size (fun _ => False) w32 w32 := RK.refl _ _ _
    refine icw_plain ?_
    refine ipl_step rfl (by kernel_rfl) (by kernel_rfl) (by kernel_rfl) (sn_new (us := #[.int .i64 0, .int .i64 0, .int .i64 0, .int .i64 0, .int .i64 0, .int .i64 0, .int .i64 0, .int .i64 0]) (t := 61) (by kernel_rfl) ?_)
    intro O37 X38 hO hOs hb hbx
    have hzO37 := hO; have hyO37 := hOs; clear hO hOs
    have bO37_0 : BoxAt X38 O37 0 (.int .i64 0) := hbx 0 _ rfl
    have bO37_1 : BoxAt X38 O37 1 (.int .i64 0) := hbx 1 _ rfl
    have bO37_2 : BoxAt X38 O37 2 (.int .i64 0) := hbx 2 _ rfl
    have bO37_3 : BoxAt X38 O37 3 (.int .i64 0) := hbx 3 _ rfl
    have bO37_4 : BoxAt X38 O37 4 (.int .i64 0) := hbx 4 _ rfl
    have bO37_5 : BoxAt X38 O37 5 (.int .i64 0) := hbx 5 _ rfl
    have bO37_6 : BoxAt X38 O37 6 (.int .i64 0) := hbx 6 _ rfl
    have bO37_7 : BoxAt X38 O37 7 (.int .i64 0) := hbx 7 _ rfl
    clear hbx
    replace hE := hE.trans hb
    replace bO1_0 := BoxAt.ext hb bO1_0
    replace bO1_1 := BoxAt.ext hb bO1_1
    replace bO1_2 := BoxAt.ext hb bO1_2
    replace bO1_3 := BoxAt.ext hb bO1_3
    replace bO1_4 := BoxAt.ext hb bO1_4
    replace bO1_5 := BoxAt.ext hb bO1_5
    replace bO1_6 := BoxAt.ext hb bO1_6
    replace bO7_0 := BoxAt.ext hb bO7_0
    replace bO7_1 := BoxAt.ext hb bO7_1
    replace bO7_2 := BoxAt.ext hb bO7_2
    replace bO7_3 := BoxAt.ext hb bO7_3
    replace bO7_4 := BoxAt.ext hb bO7_4
    replace bO7_5 := BoxAt.ext hb bO7_5
    replace bO7_6 := BoxAt.ext hb bO7_6
    replace bO7_7 := BoxAt.ext hb bO7_7
    replace bO18_0 := BoxAt.ext hb bO18_0
    replace hmp9 := hmp9.ext hb
    replace hrk36 := hrk36.ext hb
    have hs39 := hb.size
    clear hb
    have lt40 := bO37_0.lt
    refine ipl_put rfl (by kernel_rfl) (by kernel_rfl) (sn_setK8 (O := O37) (j := 0) (v0 := .int .i64 (o.p : Int)) (v1 := .int .i64 (o.f : Int)) (v2 := .int .i64 (o.lo : Int)) (v3 := .int .i64 (o.hi : Int)) (v4 := .int .i64 (o.nd : Int)) (v5 := .int .i64 (o.tn : Int)) (v6 := .int .i64 (o.sl : Int)) (v7 := .int .i64 (t - (-o.sl + ((i : Nat) : Int)) : Int)) (ex_store (p := .pointer (some ⟨O37, 0, none⟩)) (v := .agg #[.int .i64 (o.p : Int), .int .i64 (o.f : Int), .int .i64 (o.lo : Int), .int .i64 (o.hi : Int), .int .i64 (o.nd : Int), .int .i64 (o.tn : Int), .int .i64 (o.sl : Int), .int .i64 (t - (-o.sl + ((i : Nat) : Int)) : Int)]) rfl (by kernel_rfl) (by kernel_rfl) (st61 bO37_0.1 bO37_0.2 bO37_1.1 bO37_1.2 bO37_2.1 bO37_2.2 bO37_3.1 bO37_3.2 bO37_4.1 bO37_4.2 bO37_5.1 bO37_5.2 bO37_6.1 bO37_6.2 bO37_7.1 bO37_7.2)) bO37_0 bO37_1 bO37_2 bO37_3 bO37_4 bO37_5 bO37_6 bO37_7 ?_)
    intro X41 ho hv0 hv1 hv2 hv3 hv4 hv5 hv6 hv7 hk
    replace hE := ho.ext hE (Nat.le_trans (Nat.le_trans hs3 (Nat.le_trans hs6 (Nat.le_trans hs9 (Nat.le_trans hs12 (Nat.le_trans hs16 (Nat.le_trans hs20 (Nat.le_trans hs23 (Nat.le_trans hs30 hs33)))))))) (Nat.le_of_eq hzO37))
    replace bO1_0 := ho.box (Nat.ne_of_gt (Nat.lt_of_lt_of_le lt4 (Nat.le_trans (Nat.le_trans hs6 (Nat.le_trans hs9 (Nat.le_trans hs12 (Nat.le_trans hs16 (Nat.le_trans hs20 (Nat.le_trans hs23 (Nat.le_trans hs30 hs33))))))) (Nat.le_of_eq hzO37)))) bO1_0
    replace bO1_1 := ho.box (Nat.ne_of_gt (Nat.lt_of_lt_of_le lt4 (Nat.le_trans (Nat.le_trans hs6 (Nat.le_trans hs9 (Nat.le_trans hs12 (Nat.le_trans hs16 (Nat.le_trans hs20 (Nat.le_trans hs23 (Nat.le_trans hs30 hs33))))))) (Nat.le_of_eq hzO37)))) bO1_1
    replace bO1_2 := ho.box (Nat.ne_of_gt (Nat.lt_of_lt_of_le lt4 (Nat.le_trans (Nat.le_trans hs6 (Nat.le_trans hs9 (Nat.le_trans hs12 (Nat.le_trans hs16 (Nat.le_trans hs20 (Nat.le_trans hs23 (Nat.le_trans hs30 hs33))))))) (Nat.le_of_eq hzO37)))) bO1_2
    replace bO1_3 := ho.box (Nat.ne_of_gt (Nat.lt_of_lt_of_le lt4 (Nat.le_trans (Nat.le_trans hs6 (Nat.le_trans hs9 (Nat.le_trans hs12 (Nat.le_trans hs16 (Nat.le_trans hs20 (Nat.le_trans hs23 (Nat.le_trans hs30 hs33))))))) (Nat.le_of_eq hzO37)))) bO1_3
    replace bO1_4 := ho.box (Nat.ne_of_gt (Nat.lt_of_lt_of_le lt4 (Nat.le_trans (Nat.le_trans hs6 (Nat.le_trans hs9 (Nat.le_trans hs12 (Nat.le_trans hs16 (Nat.le_trans hs20 (Nat.le_trans hs23 (Nat.le_trans hs30 hs33))))))) (Nat.le_of_eq hzO37)))) bO1_4
    replace bO1_5 := ho.box (Nat.ne_of_gt (Nat.lt_of_lt_of_le lt4 (Nat.le_trans (Nat.le_trans hs6 (Nat.le_trans hs9 (Nat.le_trans hs12 (Nat.le_trans hs16 (Nat.le_trans hs20 (Nat.le_trans hs23 (Nat.le_trans hs30 hs33))))))) (Nat.le_of_eq hzO37)))) bO1_5
    replace bO1_6 := ho.box (Nat.ne_of_gt (Nat.lt_of_lt_of_le lt4 (Nat.le_trans (Nat.le_trans hs6 (Nat.le_trans hs9 (Nat.le_trans hs12 (Nat.le_trans hs16 (Nat.le_trans hs20 (Nat.le_trans hs23 (Nat.le_trans hs30 hs33))))))) (Nat.le_of_eq hzO37)))) bO1_6
    replace bO7_0 := ho.box (Nat.ne_of_gt (Nat.lt_of_lt_of_le lt10 (Nat.le_trans (Nat.le_trans hs12 (Nat.le_trans hs16 (Nat.le_trans hs20 (Nat.le_trans hs23 (Nat.le_trans hs30 hs33))))) (Nat.le_of_eq hzO37)))) bO7_0
    replace bO7_1 := ho.box (Nat.ne_of_gt (Nat.lt_of_lt_of_le lt10 (Nat.le_trans (Nat.le_trans hs12 (Nat.le_trans hs16 (Nat.le_trans hs20 (Nat.le_trans hs23 (Nat.le_trans hs30 hs33))))) (Nat.le_of_eq hzO37)))) bO7_1
    replace bO7_2 := ho.box (Nat.ne_of_gt (Nat.lt_of_lt_of_le lt10 (Nat.le_trans (Nat.le_trans hs12 (Nat.le_trans hs16 (Nat.le_trans hs20 (Nat.le_trans hs23 (Nat.le_trans hs30 hs33))))) (Nat.le_of_eq hzO37)))) bO7_2
    replace bO7_3 := ho.box (Nat.ne_of_gt (Nat.lt_of_lt_of_le lt10 (Nat.le_trans (Nat.le_trans hs12 (Nat.le_trans hs16 (Nat.le_trans hs20 (Nat.le_trans hs23 (Nat.le_trans hs30 hs33))))) (Nat.le_of_eq hzO37)))) bO7_3
    replace bO7_4 := ho.box (Nat.ne_of_gt (Nat.lt_of_lt_of_le lt10 (Nat.le_trans (Nat.le_trans hs12 (Nat.le_trans hs16 (Nat.le_trans hs20 (Nat.le_trans hs23 (Nat.le_trans hs30 hs33))))) (Nat.le_of_eq hzO37)))) bO7_4
    replace bO7_5 := ho.box (Nat.ne_of_gt (Nat.lt_of_lt_of_le lt10 (Nat.le_trans (Nat.le_trans hs12 (Nat.le_trans hs16 (Nat.le_trans hs20 (Nat.le_trans hs23 (Nat.le_trans hs30 hs33))))) (Nat.le_of_eq hzO37)))) bO7_5
    replace bO7_6 := ho.box (Nat.ne_of_gt (Nat.lt_of_lt_of_le lt10 (Nat.le_trans (Nat.le_trans hs12 (Nat.le_trans hs16 (Nat.le_trans hs20 (Nat.le_trans hs23 (Nat.le_trans hs30 hs33))))) (Nat.le_of_eq hzO37)))) bO7_6
    replace bO7_7 := ho.box (Nat.ne_of_gt (Nat.lt_of_lt_of_le lt10 (Nat.le_trans (Nat.le_trans hs12 (Nat.le_trans hs16 (Nat.le_trans hs20 (Nat.le_trans hs23 (Nat.le_trans hs30 hs33))))) (Nat.le_of_eq hzO37)))) bO7_7
    replace bO18_0 := ho.box (Nat.ne_of_gt (Nat.lt_of_lt_of_le lt21 (Nat.le_trans (Nat.le_trans hs23 (Nat.le_trans hs30 hs33)) (Nat.le_of_eq hzO37)))) bO18_0
    replace hmp9 := hmp9.block (ho.heap' _ (Nat.ne_of_lt (Nat.lt_of_lt_of_le lt17 (Nat.le_trans (Nat.le_trans hs20 (Nat.le_trans hs23 (Nat.le_trans hs30 hs33))) (Nat.le_of_eq hzO37)))))
    replace hrk36 := hrk36.turn ho (.inr (Nat.le_of_eq hzO37))
    have hs42 : X38.heap.size ≤ X41.heap.size := Nat.le_of_eq ho.size.symm
    clear ho hk bO37_0 bO37_1 bO37_2 bO37_3 bO37_4 bO37_5 bO37_6 bO37_7
    have bO37_0 := hv0; clear hv0
    have bO37_1 := hv1; clear hv1
    have bO37_2 := hv2; clear hv2
    have bO37_3 := hv3; clear hv3
    have bO37_4 := hv4; clear hv4
    have bO37_5 := hv5; clear hv5
    have bO37_6 := hv6; clear hv6
    have bO37_7 := hv7; clear hv7
    refine ipl_nil ?_
    refine iqw_asg hrk36 (fun w44 hm43 => ?_)
    replace hE := hm43.ext hE (Nat.le_trans hs3 (Nat.le_trans hs6 (Nat.le_trans hs9 (Nat.le_trans hs12 (Nat.le_trans hs16 (Nat.le_trans hs20 (Nat.le_trans hs23 hs30)))))))
    replace bO1_0 := hm43.box bO1_0
    replace bO1_1 := hm43.box bO1_1
    replace bO1_2 := hm43.box bO1_2
    replace bO1_3 := hm43.box bO1_3
    replace bO1_4 := hm43.box bO1_4
    replace bO1_5 := hm43.box bO1_5
    replace bO1_6 := hm43.box bO1_6
    replace bO7_0 := hm43.box bO7_0
    replace bO7_1 := hm43.box bO7_1
    replace bO7_2 := hm43.box bO7_2
    replace bO7_3 := hm43.box bO7_3
    replace bO7_4 := hm43.box bO7_4
    replace bO7_5 := hm43.box bO7_5
    replace bO7_6 := hm43.box bO7_6
    replace bO7_7 := hm43.box bO7_7
    replace bO18_0 := hm43.box bO18_0
    replace hmp9 := hmp9.mv hm43 (Nat.lt_of_lt_of_le lt17 (Nat.le_trans hs20 (Nat.le_trans hs23 hs30)))
    replace bO37_0 := hm43.box bO37_0
    replace bO37_1 := hm43.box bO37_1
    replace bO37_2 := hm43.box bO37_2
    replace bO37_3 := hm43.box bO37_3
    replace bO37_4 := hm43.box bO37_4
    replace bO37_5 := hm43.box bO37_5
    replace bO37_6 := hm43.box bO37_6
    replace bO37_7 := hm43.box bO37_7
    have hs45 := hm43.size
    have hrk46 : RK w29.heap.size (fun _ => False) w44 w44 := RK.refl _ _ _
    refine icw_block ?_
    refine icw_draw [(some 24, [8], []), (some 25, [9], []), (some 26, [25], [1]), (none, [24, 26], [0, 2, 2, 0, 1, 2])] (fun w' => w'.cell? ⟨O18, 0, none⟩ = some (.map (some O13)) ∧ w'.cell? ⟨O37, 0, none⟩ = some (.int .i64 (o.p : Int)) ∧ w'.cell? ⟨O37, 1, none⟩ = some (.int .i64 (o.f : Int)) ∧ w'.cell? ⟨O37, 2, none⟩ = some (.int .i64 (o.lo : Int)) ∧ w'.cell? ⟨O37, 3, none⟩ = some (.int .i64 (o.hi : Int)) ∧ w'.cell? ⟨O37, 4, none⟩ = some (.int .i64 (o.nd : Int)) ∧ w'.cell? ⟨O37, 5, none⟩ = some (.int .i64 (o.tn : Int)) ∧ w'.cell? ⟨O37, 6, none⟩ = some (.int .i64 (o.sl : Int)) ∧ w'.cell? ⟨O37, 7, none⟩ = some (.int .i64 (t - (-o.sl + ((i : Nat) : Int)) : Int))) (by kernel_rfl) (by kernel_rfl) (by kernel_rfl) (by kernel_rfl) ((calm_block calm_rnd)) (⟨bO18_0.1, bO37_0.1, bO37_1.1, bO37_2.1, bO37_3.1, bO37_4.1, bO37_5.1, bO37_6.1, bO37_7.1⟩) (fun ops Q X47 hb hL hR hK => ?_)
    replace hE := hE.trans hb
    replace bO1_0 := BoxAt.ext hb bO1_0
    replace bO1_1 := BoxAt.ext hb bO1_1
    replace bO1_2 := BoxAt.ext hb bO1_2
    replace bO1_3 := BoxAt.ext hb bO1_3
    replace bO1_4 := BoxAt.ext hb bO1_4
    replace bO1_5 := BoxAt.ext hb bO1_5
    replace bO1_6 := BoxAt.ext hb bO1_6
    replace bO7_0 := BoxAt.ext hb bO7_0
    replace bO7_1 := BoxAt.ext hb bO7_1
    replace bO7_2 := BoxAt.ext hb bO7_2
    replace bO7_3 := BoxAt.ext hb bO7_3
    replace bO7_4 := BoxAt.ext hb bO7_4
    replace bO7_5 := BoxAt.ext hb bO7_5
    replace bO7_6 := BoxAt.ext hb bO7_6
    replace bO7_7 := BoxAt.ext hb bO7_7
    replace bO18_0 := BoxAt.ext hb bO18_0
    replace hmp9 := hmp9.ext hb
    replace bO37_0 := BoxAt.ext hb bO37_0
    replace bO37_1 := BoxAt.ext hb bO37_1
    replace bO37_2 := BoxAt.ext hb bO37_2
    replace bO37_3 := BoxAt.ext hb bO37_3
    replace bO37_4 := BoxAt.ext hb bO37_4
    replace bO37_5 := BoxAt.ext hb bO37_5
    replace bO37_6 := BoxAt.ext hb bO37_6
    replace bO37_7 := BoxAt.ext hb bO37_7
    replace hrk46 := hrk46.ext hb
    have hs48 := hb.size
    clear hb
    refine iwd_take 0 (.map (some O13)) hR rfl (by kernel_rfl) rfl (by kernel_rfl) (fun w hS => ex_load rfl (by kernel_rfl) (ld101 (hS.1))) (⟨bO18_0.1, bO37_0.1, bO37_1.1, bO37_2.1, bO37_3.1, bO37_4.1, bO37_5.1, bO37_6.1, bO37_7.1⟩) ?_
    refine iwd_take 1 (.agg #[.int .i64 (o.p : Int), .int .i64 (o.f : Int), .int .i64 (o.lo : Int), .int .i64 (o.hi : Int), .int .i64 (o.nd : Int), .int .i64 (o.tn : Int), .int .i64 (o.sl : Int), .int .i64 (t - (-o.sl + ((i : Nat) : Int)) : Int)]) hR rfl (by kernel_rfl) rfl (by kernel_rfl) (fun w hS => ex_load rfl (by kernel_rfl) (ld61 (hS.2.1) (hS.2.2.1) (hS.2.2.2.1) (hS.2.2.2.2.1) (hS.2.2.2.2.2.1) (hS.2.2.2.2.2.2.1) (hS.2.2.2.2.2.2.2.1) (hS.2.2.2.2.2.2.2.2))) (⟨bO18_0.1, bO37_0.1, bO37_1.1, bO37_2.1, bO37_3.1, bO37_4.1, bO37_5.1, bO37_6.1, bO37_7.1⟩) ?_
    refine iwd_step 2 hR rfl (by kernel_rfl) (by kernel_rfl) (by kernel_rfl) (sn_call (f := 24) (args := #[.agg #[.int .i64 (o.p : Int), .int .i64 (o.f : Int), .int .i64 (o.lo : Int), .int .i64 (o.hi : Int), .int .i64 (o.nd : Int), .int .i64 (o.tn : Int), .int .i64 (o.sl : Int), .int .i64 (t - (-o.sl + ((i : Nat) : Int)) : Int)]]) (by kernel_rfl) ((cell_c o (t - (-o.sl + ((i : Nat) : Int))) _ hok (by omega) (by omega)).mono ?_))
    rintro e w49 ⟨rfl, hb⟩
    replace hE := hE.trans hb
    replace bO1_0 := BoxAt.ext hb bO1_0
    replace bO1_1 := BoxAt.ext hb bO1_1
    replace bO1_2 := BoxAt.ext hb bO1_2
    replace bO1_3 := BoxAt.ext hb bO1_3
    replace bO1_4 := BoxAt.ext hb bO1_4
    replace bO1_5 := BoxAt.ext hb bO1_5
    replace bO1_6 := BoxAt.ext hb bO1_6
    replace bO7_0 := BoxAt.ext hb bO7_0
    replace bO7_1 := BoxAt.ext hb bO7_1
    replace bO7_2 := BoxAt.ext hb bO7_2
    replace bO7_3 := BoxAt.ext hb bO7_3
    replace bO7_4 := BoxAt.ext hb bO7_4
    replace bO7_5 := BoxAt.ext hb bO7_5
    replace bO7_6 := BoxAt.ext hb bO7_6
    replace bO7_7 := BoxAt.ext hb bO7_7
    replace bO18_0 := BoxAt.ext hb bO18_0
    replace hmp9 := hmp9.ext hb
    replace bO37_0 := BoxAt.ext hb bO37_0
    replace bO37_1 := BoxAt.ext hb bO37_1
    replace bO37_2 := BoxAt.ext hb bO37_2
    replace bO37_3 := BoxAt.ext hb bO37_3
    replace bO37_4 := BoxAt.ext hb bO37_4
    replace bO37_5 := BoxAt.ext hb bO37_5
    replace bO37_6 := BoxAt.ext hb bO37_6
    replace bO37_7 := BoxAt.ext hb bO37_7
    replace hrk46 := hrk46.ext hb
    have hs50 := hb.size
    clear hb
    refine ⟨_, rfl, ⟨bO18_0.1, bO37_0.1, bO37_1.1, bO37_2.1, bO37_3.1, bO37_4.1, bO37_5.1, bO37_6.1, bO37_7.1⟩, ?_⟩
    obtain ⟨X51, hr52, hm53, ht54⟩ := run_update Tryd.underlying101 hmp9 cel_law (Orb.cx o (t - (-o.sl + ((i : Nat) : Int))), Orb.cy o (t - (-o.sl + ((i : Nat) : Int)))) true
    refine iwd_step 3 hR rfl (by kernel_rfl) (by kernel_rfl) (by kernel_rfl) (sn_skp (ex_mapU rfl (by kernel_rfl) (by kernel_rfl) (by kernel_rfl) hr52) ?_)
    replace hE := ht54.ext hE (Nat.le_trans (Nat.le_trans hs3 (Nat.le_trans hs6 (Nat.le_trans hs9 hs12))) (Nat.le_of_eq hzO13))
    replace bO1_0 := (ht54.mv0).box bO1_0
    replace bO1_1 := (ht54.mv0).box bO1_1
    replace bO1_2 := (ht54.mv0).box bO1_2
    replace bO1_3 := (ht54.mv0).box bO1_3
    replace bO1_4 := (ht54.mv0).box bO1_4
    replace bO1_5 := (ht54.mv0).box bO1_5
    replace bO1_6 := (ht54.mv0).box bO1_6
    replace bO7_0 := (ht54.mv0).box bO7_0
    replace bO7_1 := (ht54.mv0).box bO7_1
    replace bO7_2 := (ht54.mv0).box bO7_2
    replace bO7_3 := (ht54.mv0).box bO7_3
    replace bO7_4 := (ht54.mv0).box bO7_4
    replace bO7_5 := (ht54.mv0).box bO7_5
    replace bO7_6 := (ht54.mv0).box bO7_6
    replace bO7_7 := (ht54.mv0).box bO7_7
    replace bO18_0 := (ht54.mv0).box bO18_0
    replace bO37_0 := (ht54.mv0).box bO37_0
    replace bO37_1 := (ht54.mv0).box bO37_1
    replace bO37_2 := (ht54.mv0).box bO37_2
    replace bO37_3 := (ht54.mv0).box bO37_3
    replace bO37_4 := (ht54.mv0).box bO37_4
    replace bO37_5 := (ht54.mv0).box bO37_5
    replace bO37_6 := (ht54.mv0).box bO37_6
    replace bO37_7 := (ht54.mv0).box bO37_7
    replace hrk46 := hrk46.turnM ht54 (.inl (Nat.lt_of_lt_of_le lt17 (Nat.le_trans hs20 (Nat.le_trans hs23 hs30))))
    have hs55 : w49.heap.size ≤ X51.heap.size := Nat.le_of_eq ht54.size.symm
    have lt56 := hm53.lt
    refine ⟨⟨bO18_0.1, bO37_0.1, bO37_1.1, bO37_2.1, bO37_3.1, bO37_4.1, bO37_5.1, bO37_6.1, bO37_7.1⟩, ?_⟩
    refine iwd_end hL hR hK (by kernel_rfl) ?_
    refine iqw_block ?_
    exact iqw_next hrk46 ⟨(Nat.le_trans hs33 (Nat.le_trans hs39 (Nat.le_trans hs42 (Nat.le_trans hs45 (Nat.le_trans hs48 (Nat.le_trans hs50 hs55)))))), hE, bO1_0, bO1_1, bO1_2, bO1_3, bO1_4, bO1_5, bO1_6, bO7_0, bO7_1, bO7_2, bO7_3, bO7_4, bO7_5, bO7_6, bO7_7, bO18_0, hm53⟩
  ·
    clear bO1_0 bO1_1 bO1_2 bO1_3 bO1_4 bO1_5 bO1_6 bO7_0 bO7_1 bO7_2 bO7_3 bO7_4 bO7_5 bO7_6 bO7_7 bO18_0 hE
    intro D57 w58 hD61 hDl62 h hmk60
    obtain ⟨hs59, hE, bO1_0, bO1_1, bO1_2, bO1_3, bO1_4, bO1_5, bO1_6, bO7_0, bO7_1, bO7_2, bO7_3, bO7_4, bO7_5, bO7_6, bO7_7, bO18_0, hmp9⟩ := h
    refine iqw_block ?_
    refine iqw_then ?_
    refine icw_seq ?_
    refine icw_plain ?_
    refine ipl_take (.func (.func 56) #[] #[]) rfl (by kernel_rfl) (by kernel_rfl) (by kernel_rfl) (by kernel_rfl) ?_
    refine ipl_nil ?_
    refine iqw_then ?_
    refine icw_seq ?_
    refine icw_plain ?_
    refine ipl_take (.map (some O13)) rfl (by kernel_rfl) (by kernel_rfl) (by kernel_rfl) (ex_load rfl (by kernel_rfl) (ld101 (bO18_0.1))) ?_
    refine ipl_step rfl (by kernel_rfl) (by kernel_rfl) (by kernel_rfl) (sn_call (f := 60) (args := #[.map (some O13)]) (by kernel_rfl) ((Keys_c O13 _).mono ?_))
    rintro e w66 ⟨Bm63, rfl, hn64, hc65, hb⟩
    replace hE := hE.trans hb
    replace bO1_0 := BoxAt.ext hb bO1_0
    replace bO1_1 := BoxAt.ext hb bO1_1
    replace bO1_2 := BoxAt.ext hb bO1_2
    replace bO1_3 := BoxAt.ext hb bO1_3
    replace bO1_4 := BoxAt.ext hb bO1_4
    replace bO1_5 := BoxAt.ext hb bO1_5
    replace bO1_6 := BoxAt.ext hb bO1_6
    replace bO7_0 := BoxAt.ext hb bO7_0
    replace bO7_1 := BoxAt.ext hb bO7_1
    replace bO7_2 := BoxAt.ext hb bO7_2
    replace bO7_3 := BoxAt.ext hb bO7_3
    replace bO7_4 := BoxAt.ext hb bO7_4
    replace bO7_5 := BoxAt.ext hb bO7_5
    replace bO7_6 := BoxAt.ext hb bO7_6
    replace bO7_7 := BoxAt.ext hb bO7_7
    replace bO18_0 := BoxAt.ext hb bO18_0
    replace hmp9 := hmp9.ext hb
    replace hmk60 := mk_ext hmk60 hb
    have hs67 := hb.size
    clear hb
    have lt68 := World.block_lt_of_cell? _ _ hc65
    refine ⟨_, rfl, ?_⟩
    refine ipl_take (.func (.func 56) #[] #[]) rfl (by kernel_rfl) (by kernel_rfl) (by kernel_rfl) (by kernel_rfl) ?_
    refine ipl_step rfl (by kernel_rfl) (by kernel_rfl) (by kernel_rfl) (sn_call (f := 59) (args := #[.func (.func 76) #[] #[.pointer (some ⟨Bm63, 0, none⟩)], .func (.func 56) #[] #[]]) (by kernel_rfl) ((SortedFunc_c _ hc65 (hmp9) (Nat.le_trans (visL_len _ _ _) (by omega))).mono ?_))
    rintro e w75 ⟨a69, c70, rs71, n72, rfl, hp73, hC74, hbs9, hb⟩
    replace hE := hE.trans hb
    replace bO1_0 := BoxAt.ext hb bO1_0
    replace bO1_1 := BoxAt.ext hb bO1_1
    replace bO1_2 := BoxAt.ext hb bO1_2
    replace bO1_3 := BoxAt.ext hb bO1_3
    replace bO1_4 := BoxAt.ext hb bO1_4
    replace bO1_5 := BoxAt.ext hb bO1_5
    replace bO1_6 := BoxAt.ext hb bO1_6
    replace bO7_0 := BoxAt.ext hb bO7_0
    replace bO7_1 := BoxAt.ext hb bO7_1
    replace bO7_2 := BoxAt.ext hb bO7_2
    replace bO7_3 := BoxAt.ext hb bO7_3
    replace bO7_4 := BoxAt.ext hb bO7_4
    replace bO7_5 := BoxAt.ext hb bO7_5
    replace bO7_6 := BoxAt.ext hb bO7_6
    replace bO7_7 := BoxAt.ext hb bO7_7
    replace bO18_0 := BoxAt.ext hb bO18_0
    replace hmp9 := hmp9.ext hb
    replace hmk60 := mk_ext hmk60 hb
    replace hc65 := hb.cell hc65
    have hs76 := hb.size
    clear hb
    have hX77 : Ext w75 w75 := Ext.refl _
    refine ⟨_, rfl, ?_⟩
    refine ipl_take (.slice a69 n72 c70) rfl (by kernel_rfl) (by kernel_rfl) (by kernel_rfl) (by kernel_rfl) ?_
    refine ipl_take (.int .i64 0) rfl (by kernel_rfl) (by kernel_rfl) (by kernel_rfl) (by kernel_rfl) ?_
    refine ipl_nil ?_
    refine iqw_then ?_
    refine icw_clean [4, 5] (ws' := [(4, .slice a69 n72 c70), (5, .int .i64 0)]) (by kernel_rfl) (fun L => ?_)
    refine icw_ret ?_
    refine iqw_ret w.heap.size [.slice a69 n72 c70, .int .i64 0] rfl (marksC (Nat.le_trans (Nat.le_trans hs3 (Nat.le_trans hs6 (Nat.le_trans hs9 (Nat.le_trans hs12 (Nat.le_trans hs16 (Nat.le_trans hs20 (Nat.le_trans hs23 hs30))))))) hD61) hmk60 (fun _ h => by cases h)) (by simp) (fun W9 hm9 => ?_)
    have hC78 := celsMv hm9 (hC74)
    replace hE := hm9.ext hE (Nat.le_refl _)
    replace bO1_0 := hm9.box bO1_0
    replace bO1_1 := hm9.box bO1_1
    replace bO1_2 := hm9.box bO1_2
    replace bO1_3 := hm9.box bO1_3
    replace bO1_4 := hm9.box bO1_4
    replace bO1_5 := hm9.box bO1_5
    replace bO1_6 := hm9.box bO1_6
    replace bO7_0 := hm9.box bO7_0
    replace bO7_1 := hm9.box bO7_1
    replace bO7_2 := hm9.box bO7_2
    replace bO7_3 := hm9.box bO7_3
    replace bO7_4 := hm9.box bO7_4
    replace bO7_5 := hm9.box bO7_5
    replace bO7_6 := hm9.box bO7_6
    replace bO7_7 := hm9.box bO7_7
    replace bO18_0 := hm9.box bO18_0
    replace hc65 := hm9.cell hc65
    have hs79 := hm9.size
    refine ⟨⟨(by kernel_rfl), (by kernel_rfl), trivial⟩, ?_⟩
    exact ⟨_, _, _, _, rfl, hp73, hC78, fun g hg => Nat.le_trans (Nat.le_trans hs3 (Nat.le_trans hs6 (Nat.le_trans hs9 (Nat.le_trans hs12 (Nat.le_trans hs16 (Nat.le_trans hs20 (Nat.le_trans hs23 (Nat.le_trans hs30 (Nat.le_trans hs59 hs67))))))))) (hbs9 g hg), hE⟩
  · intro _ _ _ _ _ _ _ h _; exact h.elim
set_option maxRecDepth 1000000 in
set_option maxHeartbeats 4000000 in
theorem Must_c {o : Orb} {t : Int} (w : World) (hat : Orb.atB o t 0 = true) : Calls Tryd.prog 13 #[.agg #[.int .i64 o.p, .int .i64 o.f, .int .i64 o.lo, .int .i64 o.hi, .int .i64 o.nd, .int .i64 o.tn, .int .i64 o.sl], .int .i64 t] w fun e w' => ∃ (p : Nat × Nat) (is : Bool), e = .returned (.tuple #[.agg #[.int .i64 ((p.1 : Nat) : Int), .int .i64 ((p.2 : Nat) : Int)], .bool is]) ∧ (is = true → ∀ d : Int, -o.sl ≤ d → d ≤ o.sl → (Orb.cx o (t - d), Orb.cy o (t - d)) = p) ∧ Ext w w' := by
  have ha9 : (Globe.inB t 0 1000000 = true ∧ Globe.inB 0 (-10) 10 = true) ∧ Orb.ok o = true := by simpa [Orb.atB] using hat
  have h1 := Globe.inB_t.1 ha9.1.1
  have hok := ha9.2
  have hq0 := Orb.ok_t.1 hok
  refine calls_cw 25 [(1, .int .i64 (t : Int)), (0, .agg #[.int .i64 (o.p : Int), .int .i64 (o.f : Int), .int .i64 (o.lo : Int), .int .i64 (o.hi : Int), .int .i64 (o.nd : Int), .int .i64 (o.tn : Int), .int .i64 (o.sl : Int)])] Tryd.func13 rfl Tryd.ntmps13 (by kernel_rfl) (by kernel_rfl) (fun L => ?_)
  have hE : Ext w w := Ext.refl w
  refine cw_seq ?_
  refine cw_plain ?_
  refine pl_step rfl (by kernel_rfl) (by kernel_rfl) (by kernel_rfl) (sn_new (us := #[.int .i64 (o.p : Int), .int .i64 (o.f : Int), .int .i64 (o.lo : Int), .int .i64 (o.hi : Int), .int .i64 (o.nd : Int), .int .i64 (o.tn : Int), .int .i64 (o.sl : Int)]) (t := 26) (by kernel_rfl) ?_)
  intro O1 X2 hO hOs hb hbx
  have hzO1 := hO; have hyO1 := hOs; clear hO hOs
  have bO1_0 : BoxAt X2 O1 0 (.int .i64 (o.p : Int)) := hbx 0 _ rfl
  have bO1_1 : BoxAt X2 O1 1 (.int .i64 (o.f : Int)) := hbx 1 _ rfl
  have bO1_2 : BoxAt X2 O1 2 (.int .i64 (o.lo : Int)) := hbx 2 _ rfl
  have bO1_3 : BoxAt X2 O1 3 (.int .i64 (o.hi : Int)) := hbx 3 _ rfl
  have bO1_4 : BoxAt X2 O1 4 (.int .i64 (o.nd : Int)) := hbx 4 _ rfl
  have bO1_5 : BoxAt X2 O1 5 (.int .i64 (o.tn : Int)) := hbx 5 _ rfl
  have bO1_6 : BoxAt X2 O1 6 (.int .i64 (o.sl : Int)) := hbx 6 _ rfl
  clear hbx
  replace hE := hE.trans hb
  have hs3 := hb.size
  clear hb
  have lt4 := bO1_0.lt
  refine pl_step rfl (by kernel_rfl) (by kernel_rfl) (by kernel_rfl) (sn_new (us := #[.int .i64 0, .int .i64 0]) (t := 33) (by kernel_rfl) ?_)
  intro O5 X6 hO hOs hb hbx
  have hzO5 := hO; have hyO5 := hOs; clear hO hOs
  have bO5_0 : BoxAt X6 O5 0 (.int .i64 0) := hbx 0 _ rfl
  have bO5_1 : BoxAt X6 O5 1 (.int .i64 0) := hbx 1 _ rfl
  clear hbx
  replace hE := hE.trans hb
  replace bO1_0 := BoxAt.ext hb bO1_0
  replace bO1_1 := BoxAt.ext hb bO1_1
  replace bO1_2 := BoxAt.ext hb bO1_2
  replace bO1_3 := BoxAt.ext hb bO1_3
  replace bO1_4 := BoxAt.ext hb bO1_4
  replace bO1_5 := BoxAt.ext hb bO1_5
  replace bO1_6 := BoxAt.ext hb bO1_6
  have hs7 := hb.size
  clear hb
  have lt8 := bO5_0.lt
  refine pl_take (.bool false) rfl (by kernel_rfl) (by kernel_rfl) (by kernel_rfl) (by kernel_rfl) ?_
  refine pl_nil ?_
  refine qw_then ?_
  refine cw_seq ?_
  refine cw_seq ?_
  have hX9 : Ext X6 X6 := Ext.refl _
  refine cw_plain ?_
  refine pl_take (.agg #[.int .i64 (o.p : Int), .int .i64 (o.f : Int), .int .i64 (o.lo : Int), .int .i64 (o.hi : Int), .int .i64 (o.nd : Int), .int .i64 (o.tn : Int), .int .i64 (o.sl : Int)]) rfl (by kernel_rfl) (by kernel_rfl) (by kernel_rfl) (ex_load rfl (by kernel_rfl) (ld26 (bO1_0.1) (bO1_1.1) (bO1_2.1) (bO1_3.1) (bO1_4.1) (bO1_5.1) (bO1_6.1))) ?_
  refine pl_take (.int .i64 (t : Int)) rfl (by kernel_rfl) (by kernel_rfl) (by kernel_rfl) (by kernel_rfl) ?_
  refine pl_step rfl (by kernel_rfl) (by kernel_rfl) (by kernel_rfl) (sn_call (f := 34) (args := #[.agg #[.int .i64 (o.p : Int), .int .i64 (o.f : Int), .int .i64 (o.lo : Int), .int .i64 (o.hi : Int), .int .i64 (o.nd : Int), .int .i64 (o.tn : Int), .int .i64 (o.sl : Int)], .int .i64 (t : Int)]) (by kernel_rfl) ((Could_c _ hat).mono ?_))
  rintro e w10 ⟨a9, c9, rs9, n9, rfl, hp9, hC9, hbs9, hb⟩
  replace hE := hE.trans hb
  replace hX9 := hX9.trans hb
  have hs11 := hb.size
  clear hb
  have hX12 : Ext w10 w10 := Ext.refl _
  refine ⟨_, rfl, ?_⟩
  refine pl_take (.tuple #[.slice a9 n9 c9, .int .i64 0]) rfl (by kernel_rfl) (by kernel_rfl) (by kernel_rfl) (by kernel_rfl) ?_
  refine pl_take (.slice a9 n9 c9) rfl (by kernel_rfl) (by kernel_rfl) (by kernel_rfl) (by kernel_rfl) ?_
  refine pl_take (.int .i64 0) rfl (by kernel_rfl) (by kernel_rfl) (by kernel_rfl) (by kernel_rfl) ?_
  refine pl_take (.slice a9 n9 c9) rfl (by kernel_rfl) (by kernel_rfl) (by kernel_rfl) (by kernel_rfl) ?_
  refine pl_take (.int .i64 0) rfl (by kernel_rfl) (by kernel_rfl) (by kernel_rfl) (by kernel_rfl) ?_
  refine pl_nil ?_
  refine qw_then ?_
  refine cw_seq ?_
  refine cw_plain ?_
  refine pl_take (.int .i64 0) rfl (by kernel_rfl) (by kernel_rfl) (by kernel_rfl) (by kernel_rfl) ?_
  refine pl_take (.bool true) rfl (by kernel_rfl) (by kernel_rfl) (by kernel_rfl) (by kernel_rfl) ?_
  refine pl_take (.bool true) rfl (by kernel_rfl) (by kernel_rfl) (by kernel_rfl) (by kernel_rfl) ?_
  refine pl_take (.slice a9 n9 c9) rfl (by kernel_rfl) (by kernel_rfl) (by kernel_rfl) (by kernel_rfl) ?_
  refine pl_take (.int .i64 (((n9 : Nat) : Int) : Int)) rfl (by kernel_rfl) (by kernel_rfl) (by kernel_rfl) (by kernel_rfl) ?_
  by_cases hc13 : (((n9 : Nat) : Int) : Int) = (1 : Int)
  ·
    obtain ⟨b9, ha8, hx9⟩ := hC9.parts
    have hl9 := hC9.1
    obtain rfl := ha8 (by omega)
    obtain ⟨hq8, hq9⟩ := hx9 0 (by omega)
    have hbl8 := World.block_lt_of_cell? _ _ hq8
    refine pl_take (.bool true) rfl (by kernel_rfl) (by kernel_rfl) (by kernel_rfl) (ev_eq (show _ = Result.ok (Next.value (Value.bool ((((n9 : Nat) : Int) : Int) == (1 : Int)))) _ from by kernel_rfl) (hc13)) ?_
    refine pl_take (.bool true) rfl (by kernel_rfl) (by kernel_rfl) (by kernel_rfl) (by kernel_rfl) ?_
    refine pl_nil ?_
    refine qw_then ?_
    refine cw_clean [4, 6, 20] (ws' := [(4, .pointer (some ⟨O5, 0, none⟩)), (6, .slice (some ⟨b9, 0, none⟩) n9 c9), (20, .bool true)]) (by kernel_rfl) (fun L => ?_)
    refine cw_t (by kernel_rfl) ?_
    refine cw_seq ?_
    refine cw_plain ?_
    refine pl_take (.slice (some ⟨b9, 0, none⟩) n9 c9) rfl (by kernel_rfl) (by kernel_rfl) (by kernel_rfl) (by kernel_rfl) ?_
    refine pl_take (.pointer (some ⟨b9, 0, none⟩)) rfl (by kernel_rfl) (by kernel_rfl) (by kernel_rfl) (ex_index (p := .slice (some ⟨b9, 0, none⟩) n9 c9) (i := .int .i64 ((0 : Nat) : Int)) rfl (by kernel_rfl) (by kernel_rfl) (ix76z (k := 0) (by omega))) ?_
    refine pl_take (.agg #[.int .i64 ((((celN rs9 0).1 : Nat) : Int) : Int), .int .i64 ((((celN rs9 0).2 : Nat) : Int) : Int)]) rfl (by kernel_rfl) (by kernel_rfl) (by kernel_rfl) (ex_load rfl (by kernel_rfl) (ld33 (hq8) (hq9))) ?_
    have bO1_t15 := (BoxAt.ext (hX9.trans hX12) bO1_0)
    have bO1_t16 := (BoxAt.ext (hX9.trans hX12) bO1_1)
    have bO1_t17 := (BoxAt.ext (hX9.trans hX12) bO1_2)
    have bO1_t18 := (BoxAt.ext (hX9.trans hX12) bO1_3)
    have bO1_t19 := (BoxAt.ext (hX9.trans hX12) bO1_4)
    have bO1_t20 := (BoxAt.ext (hX9.trans hX12) bO1_5)
    have bO1_t21 := (BoxAt.ext (hX9.trans hX12) bO1_6)
    have bO5_t22 := (BoxAt.ext (hX9.trans hX12) bO5_0)
    have bO5_t23 := (BoxAt.ext (hX9.trans hX12) bO5_1)
    have hqt24 := hq8
    have hqt25 := hq9
    refine pl_put rfl (by kernel_rfl) (by kernel_rfl) (sn_set2 (O := O5) (j := 0) (v := .int .i64 ((((celN rs9 0).1 : Nat) : Int) : Int)) (v' := .int .i64 ((((celN rs9 0).2 : Nat) : Int) : Int)) (ex_store (p := .pointer (some ⟨O5, 0, none⟩)) (v := .agg #[.int .i64 ((((celN rs9 0).1 : Nat) : Int) : Int), .int .i64 ((((celN rs9 0).2 : Nat) : Int) : Int)]) rfl (by kernel_rfl) (by kernel_rfl) (st33 bO5_t22.1 bO5_t22.2 bO5_t23.1 bO5_t23.2)) bO5_t22 bO5_t23 ?_)
    intro X14 ho hv0 hv1 hk
    replace hE := ho.ext hE (Nat.le_trans hs3 (Nat.le_of_eq hzO5))
    replace bO1_t15 := ho.box (Nat.ne_of_gt (Nat.lt_of_lt_of_le lt4 (Nat.le_of_eq hzO5))) bO1_t15
    replace bO1_t16 := ho.box (Nat.ne_of_gt (Nat.lt_of_lt_of_le lt4 (Nat.le_of_eq hzO5))) bO1_t16
    replace bO1_t17 := ho.box (Nat.ne_of_gt (Nat.lt_of_lt_of_le lt4 (Nat.le_of_eq hzO5))) bO1_t17
    replace bO1_t18 := ho.box (Nat.ne_of_gt (Nat.lt_of_lt_of_le lt4 (Nat.le_of_eq hzO5))) bO1_t18
    replace bO1_t19 := ho.box (Nat.ne_of_gt (Nat.lt_of_lt_of_le lt4 (Nat.le_of_eq hzO5))) bO1_t19
    replace bO1_t20 := ho.box (Nat.ne_of_gt (Nat.lt_of_lt_of_le lt4 (Nat.le_of_eq hzO5))) bO1_t20
    replace bO1_t21 := ho.box (Nat.ne_of_gt (Nat.lt_of_lt_of_le lt4 (Nat.le_of_eq hzO5))) bO1_t21
    replace hqt24 := ho.cell (Nat.ne_of_lt (Nat.lt_of_lt_of_le lt8 (hbs9 b9 rfl))) hqt24
    replace hqt25 := ho.cell (Nat.ne_of_lt (Nat.lt_of_lt_of_le lt8 (hbs9 b9 rfl))) hqt25
    have hs26 : w10.heap.size ≤ X14.heap.size := Nat.le_of_eq ho.size.symm
    clear ho hk bO5_t22 bO5_t23
    have bO5_t22 := hv0; clear hv0
    have bO5_t23 := hv1; clear hv1
    refine pl_take (.bool true) rfl (by kernel_rfl) (by kernel_rfl) (by kernel_rfl) (by kernel_rfl) ?_
    refine pl_nil ?_
    refine qw_then ?_
    refine cw_ret ?_
    refine qw_then_ret ?_
    refine qw_ret [.agg #[.int .i64 ((((celN rs9 0).1 : Nat) : Int) : Int), .int .i64 ((((celN rs9 0).2 : Nat) : Int) : Int)], .bool true] rfl ⟨⟨_, by kernel_rfl, res_ld (ld33 (bO5_t22.1) (bO5_t23.1))⟩, (by kernel_rfl), trivial⟩ ?_
    exact ⟨celN rs9 0, true, rfl, fun _ d hd0 hd1 => must_is (by omega) hp9 hd0 (by omega), hE⟩
  ·
    refine pl_take (.bool false) rfl (by kernel_rfl) (by kernel_rfl) (by kernel_rfl) (ev_neq (show _ = Result.ok (Next.value (Value.bool ((((n9 : Nat) : Int) : Int) == (1 : Int)))) _ from by kernel_rfl) (hc13)) ?_
    refine pl_take (.bool false) rfl (by kernel_rfl) (by kernel_rfl) (by kernel_rfl) (by kernel_rfl) ?_
    refine pl_nil ?_
    refine qw_then ?_
    refine cw_clean [4, 6, 20] (ws' := [(4, .pointer (some ⟨O5, 0, none⟩)), (6, .slice a9 n9 c9), (20, .bool false)]) (by kernel_rfl) (fun L => ?_)
    refine cw_f (by kernel_rfl) ?_
    refine cw_skip ?_
    refine qw_then ?_
    refine cw_seq ?_
    refine cw_plain ?_
    refine pl_take (.agg #[.int .i64 0, .int .i64 0]) rfl (by kernel_rfl) (by kernel_rfl) (by kernel_rfl) (by kernel_rfl) ?_
    have bO1_t28 := (BoxAt.ext (hX9.trans hX12) bO1_0)
    have bO1_t29 := (BoxAt.ext (hX9.trans hX12) bO1_1)
    have bO1_t30 := (BoxAt.ext (hX9.trans hX12) bO1_2)
    have bO1_t31 := (BoxAt.ext (hX9.trans hX12) bO1_3)
    have bO1_t32 := (BoxAt.ext (hX9.trans hX12) bO1_4)
    have bO1_t33 := (BoxAt.ext (hX9.trans hX12) bO1_5)
    have bO1_t34 := (BoxAt.ext (hX9.trans hX12) bO1_6)
    have bO5_t35 := (BoxAt.ext (hX9.trans hX12) bO5_0)
    have bO5_t36 := (BoxAt.ext (hX9.trans hX12) bO5_1)
    refine pl_put rfl (by kernel_rfl) (by kernel_rfl) (sn_set2 (O := O5) (j := 0) (v := .int .i64 0) (v' := .int .i64 0) (ex_store (p := .pointer (some ⟨O5, 0, none⟩)) (v := .agg #[.int .i64 0, .int .i64 0]) rfl (by kernel_rfl) (by kernel_rfl) (st33 bO5_t35.1 bO5_t35.2 bO5_t36.1 bO5_t36.2)) bO5_t35 bO5_t36 ?_)
    intro X27 ho hv0 hv1 hk
    replace hE := ho.ext hE (Nat.le_trans hs3 (Nat.le_of_eq hzO5))
    replace bO1_t28 := ho.box (Nat.ne_of_gt (Nat.lt_of_lt_of_le lt4 (Nat.le_of_eq hzO5))) bO1_t28
    replace bO1_t29 := ho.box (Nat.ne_of_gt (Nat.lt_of_lt_of_le lt4 (Nat.le_of_eq hzO5))) bO1_t29
    replace bO1_t30 := ho.box (Nat.ne_of_gt (Nat.lt_of_lt_of_le lt4 (Nat.le_of_eq hzO5))) bO1_t30
    replace bO1_t31 := ho.box (Nat.ne_of_gt (Nat.lt_of_lt_of_le lt4 (Nat.le_of_eq hzO5))) bO1_t31
    replace bO1_t32 := ho.box (Nat.ne_of_gt (Nat.lt_of_lt_of_le lt4 (Nat.le_of_eq hzO5))) bO1_t32
    replace bO1_t33 := ho.box (Nat.ne_of_gt (Nat.lt_of_lt_of_le lt4 (Nat.le_of_eq hzO5))) bO1_t33
    replace bO1_t34 := ho.box (Nat.ne_of_gt (Nat.lt_of_lt_of_le lt4 (Nat.le_of_eq hzO5))) bO1_t34
    have hs37 : w10.heap.size ≤ X27.heap.size := Nat.le_of_eq ho.size.symm
    clear ho hk bO5_t35 bO5_t36
    have bO5_t35 := hv0; clear hv0
    have bO5_t36 := hv1; clear hv1
    refine pl_take (.bool false) rfl (by kernel_rfl) (by kernel_rfl) (by kernel_rfl) (by kernel_rfl) ?_
    refine pl_nil ?_
    refine qw_then ?_
    refine cw_ret ?_
    refine qw_ret [.agg #[.int .i64 0, .int .i64 0], .bool false] rfl ⟨⟨_, by kernel_rfl, res_ld (ld33 (bO5_t35.1) (bO5_t36.1))⟩, (by kernel_rfl), trivial⟩ ?_
    exact ⟨(0, 0), false, rfl, (fun h => by cases h), hE⟩

end Go.Proofs.YtdjjkhefdalokaaDoor

/- How many cells an area has; distances of cells. Plain mathematics. -/
namespace Go.Proofs.YtdjjkhefdalokaaDoor
namespace Globe

def allCells (n : Nat) : List (Nat × Nat) := (List.range n).flatMap fun y => (List.range 48).map fun x => (x, y)
theorem cellsTo_filter (l : List Int) (n : Nat) : cellsTo l n = (allCells n).filter fun p => hasL l p.1 p.2 := by
  unfold cellsTo allCells
  rw [List.filter_flatMap]
  congr 1
  funext y
  unfold rowCells bitsN
  rw [List.filter_map]
  rfl
theorem mem_all {n : Nat} {p : Nat × Nat} : p ∈ allCells n ↔ p.1 < 48 ∧ p.2 < n := by
  obtain ⟨x, y⟩ := p
  simp only [allCells, List.mem_flatMap, List.mem_range, List.mem_map, Prod.mk.injEq]
  constructor
  · rintro ⟨y', hy, x', hx, rfl, rfl⟩; exact ⟨hx, hy⟩
  · rintro ⟨hx, hy⟩; exact ⟨y, hy, x, hx, rfl, rfl⟩
/-- Whether an area has all cells of another one. -/
def containsB (a b : List Int) : Bool := validL a && validL b && decide (lessL b a = zeroL)
/-! Shifting keeps the number of cells. -/
end Globe
end Go.Proofs.YtdjjkhefdalokaaDoor

/- What an exposure shows. -/
namespace Go.Proofs.YtdjjkhefdalokaaDoor
namespace Globe
theorem ext24 {a b : List Int} (h1 : a.length = 24) (h2 : b.length = 24) (h : ∀ y, y < 24 → nth a y = nth b y) : a = b :=
  List.ext_getElem (by omega) fun y k1 k2 => by
    have := h y (by omega)
    rwa [nth_lt k1, nth_lt k2] at this
theorem rowsF_id {L : List Int} (h : validL L = true) : rowsF (fun y => rowN L y) = L :=
  ext24 (rowsF_len _) (len_of_valid h) fun y hy => by rw [nth_rowsF _ hy, ← rowN_cast h]
/-- Two areas, combined in the first i rows. -/
def mixL (f : Nat → Nat → Nat) (L M : List Int) (i : Nat) : List Int := rowsF fun y => if y < i then f (rowN L y) (rowN M y) else rowN L y
theorem mix_0 {f : Nat → Nat → Nat} {L M : List Int} (h : validL L = true) : mixL f L M 0 = L := by
  unfold mixL
  simp only [Nat.not_lt_zero, if_false]
  exact rowsF_id h
theorem mix_len (f : Nat → Nat → Nat) (L M : List Int) (i : Nat) : (mixL f L M i).length = 24 := rowsF_len _
theorem mix_nth (f : Nat → Nat → Nat) (L M : List Int) (i : Nat) {y : Nat} (hy : y < 24) : nth (mixL f L M i) y = (((if y < i then f (rowN L y) (rowN M y) else rowN L y) : Nat) : Int) := nth_rowsF _ hy
theorem mix_24 (f : Nat → Nat → Nat) (L M : List Int) : mixL f L M 24 = rowsF fun y => f (rowN L y) (rowN M y) :=
  ext24 (mix_len _ _ _ _) (rowsF_len _) fun y hy => by rw [mix_nth _ _ _ _ hy, nth_rowsF _ hy, if_pos hy]
theorem mix_row {f : Nat → Nat → Nat} {L M : List Int} {i : Nat} (hi : i < 24) : rowN (mixL f L M i) i = rowN L i := by
  show (nth (mixL f L M i) i).toNat = rowN L i
  rw [mix_nth _ _ _ _ hi, if_neg (Nat.lt_irrefl i), Int.toNat_natCast]
theorem mix_succ {f : Nat → Nat → Nat} {L M : List Int} {i : Nat} (hi : i < 24) : (mixL f L M i).set i ((f (rowN (mixL f L M i) i) (rowN M i) : Nat) : Int) = mixL f L M (i + 1) := by
  rw [mix_row hi]
  refine ext24 (by rw [List.length_set, mix_len]) (mix_len _ _ _ _) fun y hy => ?_
  rw [nth_set _ (by rw [mix_len]; exact hi), mix_nth _ _ _ _ hy]
  rw [mix_nth _ _ _ _ hy]
  by_cases e : i = y
  · subst e; rw [if_pos rfl, if_pos (by omega)]
  · rw [if_neg e]
    by_cases h : y < i
    · rw [if_pos h, if_pos (by omega)]
    · rw [if_neg h, if_neg (by omega)]
theorem mix_valid {f : Nat → Nat → Nat} (hf : ∀ p q, p < 281474976710656 → q < 281474976710656 → f p q < 281474976710656) {L M : List Int} (hL : validL L = true) (hM : validL M = true) (i : Nat) : validL (mixL f L M i) = true :=
  rowsF_valid fun y _ => by
    by_cases h : y < i
    · rw [if_pos h]; exact hf _ _ (rowN_lt hL y) (rowN_lt hM y)
    · rw [if_neg h]; exact rowN_lt hL y
def and8 (p q : Nat) : Nat := p &&& q
def or8 (p q : Nat) : Nat := p ||| q
theorem and8_lt (p q : Nat) (h : p < 281474976710656) (_ : q < 281474976710656) : and8 p q < 281474976710656 := Nat.lt_of_le_of_lt Nat.and_le_left h
theorem or8_lt (p q : Nat) (h : p < 281474976710656) (k : q < 281474976710656) : or8 p q < 281474976710656 := Nat.or_lt_two_pow (n := 48) h k
end Globe
namespace Swath
open Globe
def spB (s : Int × Int) (most : Int) : Bool := decide (0 ≤ s.1) && decide (s.1 < s.2) && decide (s.2 ≤ 1000001) && decide (s.2 - s.1 ≤ most)
theorem spB_t {s : Int × Int} {most : Int} : spB s most = true ↔ 0 ≤ s.1 ∧ s.1 < s.2 ∧ s.2 ≤ 1000001 ∧ s.2 - s.1 ≤ most := by
  unfold spB; simp [and_assoc]
/-- Is an exposure valid? -/
def shB (o : Orb) (s : Int × Int) (l : Int) : Bool := Orb.ok o && spB s 60 && inB l (-4) 4
theorem shB_t {o : Orb} {s : Int × Int} {l : Int} : shB o s l = true ↔ Orb.ok o = true ∧ (0 ≤ s.1 ∧ s.1 < s.2 ∧ s.2 ≤ 1000001 ∧ s.2 - s.1 ≤ 60) ∧ -4 ≤ l ∧ l ≤ 4 := by
  unfold shB; simp only [Bool.and_eq_true, spB_t, inB_t, and_assoc]
/-- The column that is shown. -/
def sx (o : Orb) (l u : Int) : Nat := (((Orb.cx o u : Int) + l + 48) % 48).toNat
theorem sx_lt (o : Orb) (l u : Int) : sx o l u < 48 := by unfold sx; omega
theorem sx_z (o : Orb) (l u : Int) : ((Orb.cx o u : Int) + l + 48) % 48 = (sx o l u : Int) := by unfold sx; omega
/-- What is shown from u on, for n minutes. -/
def showL (o : Orb) (l u : Int) : Nat → List Int
  | 0 => zeroL
  | n + 1 => putL (showL o l u n) (sx o l (u + n)) (Orb.cy o (u + n))
theorem show_valid {o : Orb} (h : Orb.ok o = true) (l u : Int) : ∀ n, validL (showL o l u n) = true
  | 0 => show validL zeroL = true by decide
  | n + 1 => valid_put (show_valid h l u n) (sx_lt _ _ _)
/-- What all of the first areas have; what one of them has. -/
def foldM (A : Nat → List Int) : Nat → List Int
  | 0 => zeroL
  | 1 => A 0
  | k + 2 => meetL (foldM A (k + 1)) (A (k + 1))
def foldU (A : Nat → List Int) : Nat → List Int
  | 0 => zeroL
  | 1 => A 0
  | k + 2 => unionL (foldU A (k + 1)) (A (k + 1))
theorem foldM_succ {A : Nat → List Int} {i : Nat} (h : 0 < i) : foldM A (i + 1) = meetL (foldM A i) (A i) := by
  obtain ⟨k, rfl⟩ : ∃ k, i = k + 1 := ⟨i - 1, by omega⟩
  rfl
theorem foldU_succ {A : Nat → List Int} {i : Nat} (h : 0 < i) : foldU A (i + 1) = unionL (foldU A i) (A i) := by
  obtain ⟨k, rfl⟩ : ∃ k, i = k + 1 := ⟨i - 1, by omega⟩
  rfl
theorem foldM_valid {A : Nat → List Int} (h : ∀ i, validL (A i) = true) : ∀ i, validL (foldM A i) = true
  | 0 => show validL zeroL = true by decide
  | 1 => h 0
  | k + 2 => meet_valid (foldM_valid h (k + 1))
theorem foldU_valid {A : Nat → List Int} (h : ∀ i, validL (A i) = true) : ∀ i, validL (foldU A i) = true
  | 0 => show validL zeroL = true by decide
  | 1 => h 0
  | k + 2 => union_valid (foldU_valid h (k + 1)) (h (k + 1))
/-- What is shown with the j-th delay. -/
def areaJ (o : Orb) (s : Int × Int) (lk : Int) (j : Nat) : List Int := showL o lk (s.1 - (-o.sl + ((j : Nat) : Int))) (s.2 - s.1).toNat
theorem areaJ_valid {o : Orb} (h : Orb.ok o = true) (s : Int × Int) (lk : Int) (j : Nat) : validL (areaJ o s lk j) = true := show_valid h _ _ _
def lates (o : Orb) : Nat := (2 * o.sl + 1).toNat
def sureL (o : Orb) (s : Int × Int) (lk : Int) : List Int := foldM (areaJ o s lk) (lates o)
def canL (o : Orb) (s : Int × Int) (lk : Int) : List Int := foldU (areaJ o s lk) (lates o)
theorem sure_valid {o : Orb} (h : Orb.ok o = true) (s : Int × Int) (lk : Int) : validL (sureL o s lk) = true := foldM_valid (areaJ_valid h s lk) _
theorem can_valid {o : Orb} (h : Orb.ok o = true) (s : Int × Int) (lk : Int) : validL (canL o s lk) = true := foldU_valid (areaJ_valid h s lk) _
def showsB (o : Orb) (s : Int × Int) (lk : Int) (l : List Int) : Bool := shB o s lk && containsB (sureL o s lk) l
end Swath
end Go.Proofs.YtdjjkhefdalokaaDoor

/- Contracts of package swath: isSpell, Valid, delays, shown. -/
namespace Go.Proofs.YtdjjkhefdalokaaDoor
open Go.RowKit

/-- What the iterator of shown cells has captured. -/
def ShownAt (w : World) (B1 B2 B3 B4 : Nat) (o : Orb) (s : Int × Int) (l d : Int) : Prop :=
  w.cell? ⟨B1, 0, none⟩ = some (.int .i64 s.1) ∧ w.cell? ⟨B1, 1, none⟩ = some (.int .i64 s.2) ∧ w.cell? ⟨B2, 0, none⟩ = some (.int .i64 o.p) ∧ w.cell? ⟨B2, 1, none⟩ = some (.int .i64 o.f) ∧ w.cell? ⟨B2, 2, none⟩ = some (.int .i64 o.lo) ∧ w.cell? ⟨B2, 3, none⟩ = some (.int .i64 o.hi) ∧
    w.cell? ⟨B2, 4, none⟩ = some (.int .i64 o.nd) ∧ w.cell? ⟨B2, 5, none⟩ = some (.int .i64 o.tn) ∧ w.cell? ⟨B2, 6, none⟩ = some (.int .i64 o.sl) ∧ w.cell? ⟨B3, 0, none⟩ = some (.int .i64 d) ∧ w.cell? ⟨B4, 0, none⟩ = some (.int .i64 l)
set_option maxRecDepth 1000000 in
set_option maxHeartbeats 4000000 in
theorem isSpell_c (s : Int × Int) (m : Int) (w : World) : Calls Tryd.prog 36 #[.agg #[.int .i64 s.1, .int .i64 s.2], .int .i64 m] w fun e w' => e = .returned (.bool (Swath.spB s m)) ∧ Ext w w' := by
  refine calls_cw 29 [(1, .int .i64 (m : Int)), (0, .agg #[.int .i64 (s.1 : Int), .int .i64 (s.2 : Int)])] Tryd.func36 rfl Tryd.ntmps36 (by kernel_rfl) (by kernel_rfl) (fun L => ?_)
  have hE : Ext w w := Ext.refl w
  refine cw_seq ?_
  refine cw_plain ?_
  refine pl_step rfl (by kernel_rfl) (by kernel_rfl) (by kernel_rfl) (sn_new (us := #[.int .i64 (s.1 : Int), .int .i64 (s.2 : Int)]) (t := 29) (by kernel_rfl) ?_)
  intro O1 X2 hO hOs hb hbx
  have hzO1 := hO; have hyO1 := hOs; clear hO hOs
  have bO1_0 : BoxAt X2 O1 0 (.int .i64 (s.1 : Int)) := hbx 0 _ rfl
  have bO1_1 : BoxAt X2 O1 1 (.int .i64 (s.2 : Int)) := hbx 1 _ rfl
  clear hbx
  replace hE := hE.trans hb
  have hs3 := hb.size
  clear hb
  have lt4 := bO1_0.lt
  refine pl_take (.bool false) rfl (by kernel_rfl) (by kernel_rfl) (by kernel_rfl) (by kernel_rfl) ?_
  refine pl_nil ?_
  refine qw_then ?_
  refine cw_seq ?_
  refine cw_plain ?_
  refine pl_take (.pointer (some ⟨O1, 0, none⟩)) rfl (by kernel_rfl) (by kernel_rfl) (by kernel_rfl) (by kernel_rfl) ?_
  refine pl_take (.int .i64 (s.1 : Int)) rfl (by kernel_rfl) (by kernel_rfl) (by kernel_rfl) (ex_load rfl (by kernel_rfl) (ld3 (bO1_0.1))) ?_
  by_cases hc5 : (0 : Int) ≤ (s.1 : Int)
  ·
    refine pl_take (.bool true) rfl (by kernel_rfl) (by kernel_rfl) (by kernel_rfl) (ev_dec (show _ = Result.ok (Next.value (Value.bool (decide ((0 : Int) ≤ (s.1 : Int))))) _ from by kernel_rfl) (hc5)) ?_
    refine pl_take (.bool true) rfl (by kernel_rfl) (by kernel_rfl) (by kernel_rfl) (by kernel_rfl) ?_
    refine pl_take (.pointer (some ⟨O1, 0, none⟩)) rfl (by kernel_rfl) (by kernel_rfl) (by kernel_rfl) (by kernel_rfl) ?_
    refine pl_take (.int .i64 (s.1 : Int)) rfl (by kernel_rfl) (by kernel_rfl) (by kernel_rfl) (ex_load rfl (by kernel_rfl) (ld3 (bO1_0.1))) ?_
    refine pl_take (.pointer (some ⟨O1, 1, none⟩)) rfl (by kernel_rfl) (by kernel_rfl) (by kernel_rfl) (by kernel_rfl) ?_
    refine pl_take (.int .i64 (s.2 : Int)) rfl (by kernel_rfl) (by kernel_rfl) (by kernel_rfl) (ex_load rfl (by kernel_rfl) (ld3 (bO1_1.1))) ?_
    by_cases hc6 : (s.1 : Int) < (s.2 : Int)
    ·
      refine pl_take (.bool true) rfl (by kernel_rfl) (by kernel_rfl) (by kernel_rfl) (ev_dec (show _ = Result.ok (Next.value (Value.bool (decide ((s.1 : Int) < (s.2 : Int))))) _ from by kernel_rfl) (hc6)) ?_
      refine pl_take (.bool true) rfl (by kernel_rfl) (by kernel_rfl) (by kernel_rfl) (by kernel_rfl) ?_
      refine pl_take (.bool true) rfl (by kernel_rfl) (by kernel_rfl) (by kernel_rfl) (by kernel_rfl) ?_
      refine pl_take (.pointer (some ⟨O1, 1, none⟩)) rfl (by kernel_rfl) (by kernel_rfl) (by kernel_rfl) (by kernel_rfl) ?_
      refine pl_take (.int .i64 (s.2 : Int)) rfl (by kernel_rfl) (by kernel_rfl) (by kernel_rfl) (ex_load rfl (by kernel_rfl) (ld3 (bO1_1.1))) ?_
      by_cases hc7 : (s.2 : Int) ≤ (1000001 : Int)
      ·
        refine pl_take (.bool true) rfl (by kernel_rfl) (by kernel_rfl) (by kernel_rfl) (ev_dec (show _ = Result.ok (Next.value (Value.bool (decide ((s.2 : Int) ≤ (1000001 : Int))))) _ from by kernel_rfl) (hc7)) ?_
        refine pl_take (.bool true) rfl (by kernel_rfl) (by kernel_rfl) (by kernel_rfl) (by kernel_rfl) ?_
        refine pl_take (.bool true) rfl (by kernel_rfl) (by kernel_rfl) (by kernel_rfl) (by kernel_rfl) ?_
        refine pl_take (.pointer (some ⟨O1, 1, none⟩)) rfl (by kernel_rfl) (by kernel_rfl) (by kernel_rfl) (by kernel_rfl) ?_
        refine pl_take (.int .i64 (s.2 : Int)) rfl (by kernel_rfl) (by kernel_rfl) (by kernel_rfl) (ex_load rfl (by kernel_rfl) (ld3 (bO1_1.1))) ?_
        refine pl_take (.pointer (some ⟨O1, 0, none⟩)) rfl (by kernel_rfl) (by kernel_rfl) (by kernel_rfl) (by kernel_rfl) ?_
        refine pl_take (.int .i64 (s.1 : Int)) rfl (by kernel_rfl) (by kernel_rfl) (by kernel_rfl) (ex_load rfl (by kernel_rfl) (ld3 (bO1_0.1))) ?_
        refine pl_take (.int .i64 (s.2 - s.1 : Int)) rfl (by kernel_rfl) (by kernel_rfl) (by kernel_rfl) (ev_wrap (by kernel_rfl) (by omega) (by omega)) ?_
        refine pl_take (.int .i64 (m : Int)) rfl (by kernel_rfl) (by kernel_rfl) (by kernel_rfl) (by kernel_rfl) ?_
        by_cases hc8 : (s.2 - s.1 : Int) ≤ (m : Int)
        ·
          refine pl_take (.bool true) rfl (by kernel_rfl) (by kernel_rfl) (by kernel_rfl) (ev_dec (show _ = Result.ok (Next.value (Value.bool (decide ((s.2 - s.1 : Int) ≤ (m : Int))))) _ from by kernel_rfl) (hc8)) ?_
          refine pl_take (.bool true) rfl (by kernel_rfl) (by kernel_rfl) (by kernel_rfl) (by kernel_rfl) ?_
          refine pl_take (.bool true) rfl (by kernel_rfl) (by kernel_rfl) (by kernel_rfl) (by kernel_rfl) ?_
          refine pl_nil ?_
          refine qw_then ?_
          refine cw_clean [4] (ws' := [(4, .bool true)]) (by kernel_rfl) (fun L => ?_)
          refine cw_ret ?_
          refine qw_ret [.bool true] rfl ⟨(by kernel_rfl), trivial⟩ ?_
          exact ⟨congrArg (fun b => Ending.returned (Value.bool b)) (show Swath.spB s m = true by simp [Swath.spB, hc5, hc6, hc7, hc8]).symm, hE⟩
        ·
          refine pl_take (.bool false) rfl (by kernel_rfl) (by kernel_rfl) (by kernel_rfl) (ev_ndec (show _ = Result.ok (Next.value (Value.bool (decide ((s.2 - s.1 : Int) ≤ (m : Int))))) _ from by kernel_rfl) (hc8)) ?_
          refine pl_take (.bool false) rfl (by kernel_rfl) (by kernel_rfl) (by kernel_rfl) (by kernel_rfl) ?_
          refine pl_take (.bool false) rfl (by kernel_rfl) (by kernel_rfl) (by kernel_rfl) (by kernel_rfl) ?_
          refine pl_nil ?_
          refine qw_then ?_
          refine cw_clean [4] (ws' := [(4, .bool false)]) (by kernel_rfl) (fun L => ?_)
          refine cw_ret ?_
          refine qw_ret [.bool false] rfl ⟨(by kernel_rfl), trivial⟩ ?_
          exact ⟨congrArg (fun b => Ending.returned (Value.bool b)) (show Swath.spB s m = false by simp [Swath.spB, hc5, hc6, hc7, hc8]).symm, hE⟩
      ·
        refine pl_take (.bool false) rfl (by kernel_rfl) (by kernel_rfl) (by kernel_rfl) (ev_ndec (show _ = Result.ok (Next.value (Value.bool (decide ((s.2 : Int) ≤ (1000001 : Int))))) _ from by kernel_rfl) (hc7)) ?_
        refine pl_take (.bool false) rfl (by kernel_rfl) (by kernel_rfl) (by kernel_rfl) (by kernel_rfl) ?_
        refine pl_take (.bool false) rfl (by kernel_rfl) (by kernel_rfl) (by kernel_rfl) (by kernel_rfl) ?_
        refine pl_skip rfl (by kernel_rfl) (by kernel_rfl) (by kernel_rfl) ?_
        refine pl_skip rfl (by kernel_rfl) (by kernel_rfl) (by kernel_rfl) ?_
        refine pl_skip rfl (by kernel_rfl) (by kernel_rfl) (by kernel_rfl) ?_
        refine pl_skip rfl (by kernel_rfl) (by kernel_rfl) (by kernel_rfl) ?_
        refine pl_skip rfl (by kernel_rfl) (by kernel_rfl) (by kernel_rfl) ?_
        refine pl_skip rfl (by kernel_rfl) (by kernel_rfl) (by kernel_rfl) ?_
        refine pl_skip rfl (by kernel_rfl) (by kernel_rfl) (by kernel_rfl) ?_
        refine pl_take (.bool false) rfl (by kernel_rfl) (by kernel_rfl) (by kernel_rfl) (by kernel_rfl) ?_
        refine pl_take (.bool false) rfl (by kernel_rfl) (by kernel_rfl) (by kernel_rfl) (by kernel_rfl) ?_
        refine pl_nil ?_
        refine qw_then ?_
        refine cw_clean [4] (ws' := [(4, .bool false)]) (by kernel_rfl) (fun L => ?_)
        refine cw_ret ?_
        refine qw_ret [.bool false] rfl ⟨(by kernel_rfl), trivial⟩ ?_
        exact ⟨congrArg (fun b => Ending.returned (Value.bool b)) (show Swath.spB s m = false by simp [Swath.spB, hc5, hc6, hc7]).symm, hE⟩
    ·
      refine pl_take (.bool false) rfl (by kernel_rfl) (by kernel_rfl) (by kernel_rfl) (ev_ndec (show _ = Result.ok (Next.value (Value.bool (decide ((s.1 : Int) < (s.2 : Int))))) _ from by kernel_rfl) (hc6)) ?_
      refine pl_take (.bool false) rfl (by kernel_rfl) (by kernel_rfl) (by kernel_rfl) (by kernel_rfl) ?_
      refine pl_take (.bool false) rfl (by kernel_rfl) (by kernel_rfl) (by kernel_rfl) (by kernel_rfl) ?_
      refine pl_skip rfl (by kernel_rfl) (by kernel_rfl) (by kernel_rfl) ?_
      refine pl_skip rfl (by kernel_rfl) (by kernel_rfl) (by kernel_rfl) ?_
      refine pl_skip rfl (by kernel_rfl) (by kernel_rfl) (by kernel_rfl) ?_
      refine pl_take (.bool false) rfl (by kernel_rfl) (by kernel_rfl) (by kernel_rfl) (by kernel_rfl) ?_
      refine pl_take (.bool false) rfl (by kernel_rfl) (by kernel_rfl) (by kernel_rfl) (by kernel_rfl) ?_
      refine pl_skip rfl (by kernel_rfl) (by kernel_rfl) (by kernel_rfl) ?_
      refine pl_skip rfl (by kernel_rfl) (by kernel_rfl) (by kernel_rfl) ?_
      refine pl_skip rfl (by kernel_rfl) (by kernel_rfl) (by kernel_rfl) ?_
      refine pl_skip rfl (by kernel_rfl) (by kernel_rfl) (by kernel_rfl) ?_
      refine pl_skip rfl (by kernel_rfl) (by kernel_rfl) (by kernel_rfl) ?_
      refine pl_skip rfl (by kernel_rfl) (by kernel_rfl) (by kernel_rfl) ?_
      refine pl_skip rfl (by kernel_rfl) (by kernel_rfl) (by kernel_rfl) ?_
      refine pl_take (.bool false) rfl (by kernel_rfl) (by kernel_rfl) (by kernel_rfl) (by kernel_rfl) ?_
      refine pl_take (.bool false) rfl (by kernel_rfl) (by kernel_rfl) (by kernel_rfl) (by kernel_rfl) ?_
      refine pl_nil ?_
      refine qw_then ?_
      refine cw_clean [4] (ws' := [(4, .bool false)]) (by kernel_rfl) (fun L => ?_)
      refine cw_ret ?_
      refine qw_ret [.bool false] rfl ⟨(by kernel_rfl), trivial⟩ ?_
      exact ⟨congrArg (fun b => Ending.returned (Value.bool b)) (show Swath.spB s m = false by simp [Swath.spB, hc5, hc6]).symm, hE⟩
  ·
    refine pl_take (.bool false) rfl (by kernel_rfl) (by kernel_rfl) (by kernel_rfl) (ev_ndec (show _ = Result.ok (Next.value (Value.bool (decide ((0 : Int) ≤ (s.1 : Int))))) _ from by kernel_rfl) (hc5)) ?_
    refine pl_take (.bool false) rfl (by kernel_rfl) (by kernel_rfl) (by kernel_rfl) (by kernel_rfl) ?_
    refine pl_skip rfl (by kernel_rfl) (by kernel_rfl) (by kernel_rfl) ?_
    refine pl_skip rfl (by kernel_rfl) (by kernel_rfl) (by kernel_rfl) ?_
    refine pl_skip rfl (by kernel_rfl) (by kernel_rfl) (by kernel_rfl) ?_
    refine pl_skip rfl (by kernel_rfl) (by kernel_rfl) (by kernel_rfl) ?_
    refine pl_skip rfl (by kernel_rfl) (by kernel_rfl) (by kernel_rfl) ?_
    refine pl_take (.bool false) rfl (by kernel_rfl) (by kernel_rfl) (by kernel_rfl) (by kernel_rfl) ?_
    refine pl_take (.bool false) rfl (by kernel_rfl) (by kernel_rfl) (by kernel_rfl) (by kernel_rfl) ?_
    refine pl_skip rfl (by kernel_rfl) (by kernel_rfl) (by kernel_rfl) ?_
    refine pl_skip rfl (by kernel_rfl) (by kernel_rfl) (by kernel_rfl) ?_
    refine pl_skip rfl (by kernel_rfl) (by kernel_rfl) (by kernel_rfl) ?_
    refine pl_take (.bool false) rfl (by kernel_rfl) (by kernel_rfl) (by kernel_rfl) (by kernel_rfl) ?_
    refine pl_take (.bool false) rfl (by kernel_rfl) (by kernel_rfl) (by kernel_rfl) (by kernel_rfl) ?_
    refine pl_skip rfl (by kernel_rfl) (by kernel_rfl) (by kernel_rfl) ?_
    refine pl_skip rfl (by kernel_rfl) (by kernel_rfl) (by kernel_rfl) ?_
    refine pl_skip rfl (by kernel_rfl) (by kernel_rfl) (by kernel_rfl) ?_
    refine pl_skip rfl (by kernel_rfl) (by kernel_rfl) (by kernel_rfl) ?_
    refine pl_skip rfl (by kernel_rfl) (by kernel_rfl) (by kernel_rfl) ?_
    refine pl_skip rfl (by kernel_rfl) (by kernel_rfl) (by kernel_rfl) ?_
    refine pl_skip rfl (by kernel_rfl) (by kernel_rfl) (by kernel_rfl) ?_
    refine pl_take (.bool false) rfl (by kernel_rfl) (by kernel_rfl) (by kernel_rfl) (by kernel_rfl) ?_
    refine pl_take (.bool false) rfl (by kernel_rfl) (by kernel_rfl) (by kernel_rfl) (by kernel_rfl) ?_
    refine pl_nil ?_
    refine qw_then ?_
    refine cw_clean [4] (ws' := [(4, .bool false)]) (by kernel_rfl) (fun L => ?_)
    refine cw_ret ?_
    refine qw_ret [.bool false] rfl ⟨(by kernel_rfl), trivial⟩ ?_
    exact ⟨congrArg (fun b => Ending.returned (Value.bool b)) (show Swath.spB s m = false by simp [Swath.spB, hc5]).symm, hE⟩
theorem isSpell_r (s : Int × Int) (m : Int) {r : Bool} (w : World) (hr : Swath.spB s m = r) : Calls Tryd.prog 36 #[.agg #[.int .i64 s.1, .int .i64 s.2], .int .i64 m] w fun e w' => e = .returned (.bool r) ∧ Ext w w' := hr ▸ isSpell_c s m w
set_option maxRecDepth 1000000 in
set_option maxHeartbeats 4000000 in
theorem sValid_c (o : Orb) (s : Int × Int) (l : Int) (w : World) : Calls Tryd.prog 19 #[.agg #[.int .i64 o.p, .int .i64 o.f, .int .i64 o.lo, .int .i64 o.hi, .int .i64 o.nd, .int .i64 o.tn, .int .i64 o.sl], .agg #[.int .i64 s.1, .int .i64 s.2], .int .i64 l] w fun e w' => e = .returned (.bool (Swath.shB o s l)) ∧ Ext w w' := by
  refine calls_cw 17 [(2, .int .i64 (l : Int)), (1, .agg #[.int .i64 (s.1 : Int), .int .i64 (s.2 : Int)]), (0, .agg #[.int .i64 (o.p : Int), .int .i64 (o.f : Int), .int .i64 (o.lo : Int), .int .i64 (o.hi : Int), .int .i64 (o.nd : Int), .int .i64 (o.tn : Int), .int .i64 (o.sl : Int)])] Tryd.func19 rfl Tryd.ntmps19 (by kernel_rfl) (by kernel_rfl) (fun L => ?_)
  have hE : Ext w w := Ext.refl w
  refine cw_seq ?_
  refine cw_plain ?_
  refine pl_step rfl (by kernel_rfl) (by kernel_rfl) (by kernel_rfl) (sn_new (us := #[.int .i64 (o.p : Int), .int .i64 (o.f : Int), .int .i64 (o.lo : Int), .int .i64 (o.hi : Int), .int .i64 (o.nd : Int), .int .i64 (o.tn : Int), .int .i64 (o.sl : Int)]) (t := 26) (by kernel_rfl) ?_)
  intro O1 X2 hO hOs hb hbx
  have hzO1 := hO; have hyO1 := hOs; clear hO hOs
  have bO1_0 : BoxAt X2 O1 0 (.int .i64 (o.p : Int)) := hbx 0 _ rfl
  have bO1_1 : BoxAt X2 O1 1 (.int .i64 (o.f : Int)) := hbx 1 _ rfl
  have bO1_2 : BoxAt X2 O1 2 (.int .i64 (o.lo : Int)) := hbx 2 _ rfl
  have bO1_3 : BoxAt X2 O1 3 (.int .i64 (o.hi : Int)) := hbx 3 _ rfl
  have bO1_4 : BoxAt X2 O1 4 (.int .i64 (o.nd : Int)) := hbx 4 _ rfl
  have bO1_5 : BoxAt X2 O1 5 (.int .i64 (o.tn : Int)) := hbx 5 _ rfl
  have bO1_6 : BoxAt X2 O1 6 (.int .i64 (o.sl : Int)) := hbx 6 _ rfl
  clear hbx
  replace hE := hE.trans hb
  have hs3 := hb.size
  clear hb
  have lt4 := bO1_0.lt
  refine pl_step rfl (by kernel_rfl) (by kernel_rfl) (by kernel_rfl) (sn_new (us := #[.int .i64 (s.1 : Int), .int .i64 (s.2 : Int)]) (t := 29) (by kernel_rfl) ?_)
  intro O5 X6 hO hOs hb hbx
  have hzO5 := hO; have hyO5 := hOs; clear hO hOs
  have bO5_0 : BoxAt X6 O5 0 (.int .i64 (s.1 : Int)) := hbx 0 _ rfl
  have bO5_1 : BoxAt X6 O5 1 (.int .i64 (s.2 : Int)) := hbx 1 _ rfl
  clear hbx
  replace hE := hE.trans hb
  replace bO1_0 := BoxAt.ext hb bO1_0
  replace bO1_1 := BoxAt.ext hb bO1_1
  replace bO1_2 := BoxAt.ext hb bO1_2
  replace bO1_3 := BoxAt.ext hb bO1_3
  replace bO1_4 := BoxAt.ext hb bO1_4
  replace bO1_5 := BoxAt.ext hb bO1_5
  replace bO1_6 := BoxAt.ext hb bO1_6
  have hs7 := hb.size
  clear hb
  have lt8 := bO5_0.lt
  refine pl_take (.bool false) rfl (by kernel_rfl) (by kernel_rfl) (by kernel_rfl) (by kernel_rfl) ?_
  refine pl_nil ?_
  refine qw_then ?_
  refine cw_seq ?_
  have hX9 : Ext X6 X6 := Ext.refl _
  refine cw_plain ?_
  refine pl_take (.agg #[.int .i64 (o.p : Int), .int .i64 (o.f : Int), .int .i64 (o.lo : Int), .int .i64 (o.hi : Int), .int .i64 (o.nd : Int), .int .i64 (o.tn : Int), .int .i64 (o.sl : Int)]) rfl (by kernel_rfl) (by kernel_rfl) (by kernel_rfl) (ex_load rfl (by kernel_rfl) (ld26 (bO1_0.1) (bO1_1.1) (bO1_2.1) (bO1_3.1) (bO1_4.1) (bO1_5.1) (bO1_6.1))) ?_
  rcases Bool.eq_false_or_eq_true (Orb.ok o) with hb10 | hb10
  ·
    refine pl_step rfl (by kernel_rfl) (by kernel_rfl) (by kernel_rfl) (sn_call (f := 35) (args := #[.agg #[.int .i64 (o.p : Int), .int .i64 (o.f : Int), .int .i64 (o.lo : Int), .int .i64 (o.hi : Int), .int .i64 (o.nd : Int), .int .i64 (o.tn : Int), .int .i64 (o.sl : Int)]]) (by kernel_rfl) ((oValid_r (r := true) _ (hb10)).mono ?_))
    rintro e w11 ⟨rfl, hb⟩
    replace hE := hE.trans hb
    replace hX9 := hX9.trans hb
    have hs12 := hb.size
    clear hb
    refine ⟨_, rfl, ?_⟩
    refine pl_take (.bool true) rfl (by kernel_rfl) (by kernel_rfl) (by kernel_rfl) (by kernel_rfl) ?_
    refine pl_take (.agg #[.int .i64 (s.1 : Int), .int .i64 (s.2 : Int)]) rfl (by kernel_rfl) (by kernel_rfl) (by kernel_rfl) (ex_load rfl (by kernel_rfl) (ld29 ((BoxAt.ext hX9 bO5_0).1) ((BoxAt.ext hX9 bO5_1).1))) ?_
    rcases Bool.eq_false_or_eq_true (Swath.spB s 60) with hb13 | hb13
    ·
      refine pl_step rfl (by kernel_rfl) (by kernel_rfl) (by kernel_rfl) (sn_call (f := 36) (args := #[.agg #[.int .i64 (s.1 : Int), .int .i64 (s.2 : Int)], .int .i64 60]) (by kernel_rfl) ((isSpell_r (r := true) s 60 _ (hb13)).mono ?_))
      rintro e w14 ⟨rfl, hb⟩
      replace hE := hE.trans hb
      replace hX9 := hX9.trans hb
      have hs15 := hb.size
      clear hb
      refine ⟨_, rfl, ?_⟩
      refine pl_take (.bool true) rfl (by kernel_rfl) (by kernel_rfl) (by kernel_rfl) (by kernel_rfl) ?_
      refine pl_take (.bool true) rfl (by kernel_rfl) (by kernel_rfl) (by kernel_rfl) (by kernel_rfl) ?_
      refine pl_take (.int .i64 (l : Int)) rfl (by kernel_rfl) (by kernel_rfl) (by kernel_rfl) (by kernel_rfl) ?_
      rcases Bool.eq_false_or_eq_true (Globe.inB l (-4) 4) with hb16 | hb16
      ·
        have hq17 := Globe.inB_t.1 hb16
        refine pl_step rfl (by kernel_rfl) (by kernel_rfl) (by kernel_rfl) (sn_call (f := 25) (args := #[.int .i64 (l : Int), .int .i64 (-4 : Int), .int .i64 4]) (by kernel_rfl) ((swath_isIn_r (r := true) l (-4) 4 _ (hb16)).mono ?_))
        rintro e w18 ⟨rfl, hb⟩
        replace hE := hE.trans hb
        replace hX9 := hX9.trans hb
        have hs19 := hb.size
        clear hb
        refine ⟨_, rfl, ?_⟩
        refine pl_take (.bool true) rfl (by kernel_rfl) (by kernel_rfl) (by kernel_rfl) (by kernel_rfl) ?_
        refine pl_take (.bool true) rfl (by kernel_rfl) (by kernel_rfl) (by kernel_rfl) (by kernel_rfl) ?_
        refine pl_nil ?_
        refine qw_then ?_
        refine cw_clean [6] (ws' := [(6, .bool true)]) (by kernel_rfl) (fun L => ?_)
        refine cw_ret ?_
        refine qw_ret [.bool true] rfl ⟨(by kernel_rfl), trivial⟩ ?_
        exact ⟨congrArg (fun b => Ending.returned (Value.bool b)) (show Swath.shB o s l = true by simp [Swath.shB, hb10, hb13, hb16]).symm, hE⟩
      ·
        refine pl_step rfl (by kernel_rfl) (by kernel_rfl) (by kernel_rfl) (sn_call (f := 25) (args := #[.int .i64 (l : Int), .int .i64 (-4 : Int), .int .i64 4]) (by kernel_rfl) ((swath_isIn_r (r := false) l (-4) 4 _ (hb16)).mono ?_))
        rintro e w20 ⟨rfl, hb⟩
        replace hE := hE.trans hb
        replace hX9 := hX9.trans hb
        have hs21 := hb.size
        clear hb
        refine ⟨_, rfl, ?_⟩
        refine pl_take (.bool false) rfl (by kernel_rfl) (by kernel_rfl) (by kernel_rfl) (by kernel_rfl) ?_
        refine pl_take (.bool false) rfl (by kernel_rfl) (by kernel_rfl) (by kernel_rfl) (by kernel_rfl) ?_
        refine pl_nil ?_
        refine qw_then ?_
        refine cw_clean [6] (ws' := [(6, .bool false)]) (by kernel_rfl) (fun L => ?_)
        refine cw_ret ?_
        refine qw_ret [.bool false] rfl ⟨(by kernel_rfl), trivial⟩ ?_
        exact ⟨congrArg (fun b => Ending.returned (Value.bool b)) (show Swath.shB o s l = false by simp [Swath.shB, hb10, hb13, hb16]).symm, hE⟩
    ·
      refine pl_step rfl (by kernel_rfl) (by kernel_rfl) (by kernel_rfl) (sn_call (f := 36) (args := #[.agg #[.int .i64 (s.1 : Int), .int .i64 (s.2 : Int)], .int .i64 60]) (by kernel_rfl) ((isSpell_r (r := false) s 60 _ (hb13)).mono ?_))
      rintro e w22 ⟨rfl, hb⟩
      replace hE := hE.trans hb
      replace hX9 := hX9.trans hb
      have hs23 := hb.size
      clear hb
      refine ⟨_, rfl, ?_⟩
      refine pl_take (.bool false) rfl (by kernel_rfl) (by kernel_rfl) (by kernel_rfl) (by kernel_rfl) ?_
      refine pl_take (.bool false) rfl (by kernel_rfl) (by kernel_rfl) (by kernel_rfl) (by kernel_rfl) ?_
      refine pl_skip rfl (by kernel_rfl) (by kernel_rfl) (by kernel_rfl) ?_
      refine pl_skip rfl (by kernel_rfl) (by kernel_rfl) (by kernel_rfl) ?_
      refine pl_take (.bool false) rfl (by kernel_rfl) (by kernel_rfl) (by kernel_rfl) (by kernel_rfl) ?_
      refine pl_take (.bool false) rfl (by kernel_rfl) (by kernel_rfl) (by kernel_rfl) (by kernel_rfl) ?_
      refine pl_nil ?_
      refine qw_then ?_
      refine cw_clean [6] (ws' := [(6, .bool false)]) (by kernel_rfl) (fun L => ?_)
      refine cw_ret ?_
      refine qw_ret [.bool false] rfl ⟨(by kernel_rfl), trivial⟩ ?_
      exact ⟨congrArg (fun b => Ending.returned (Value.bool b)) (show Swath.shB o s l = false by simp [Swath.shB, hb10, hb13]).symm, hE⟩
  ·
    refine pl_step rfl (by kernel_rfl) (by kernel_rfl) (by kernel_rfl) (sn_call (f := 35) (args := #[.agg #[.int .i64 (o.p : Int), .int .i64 (o.f : Int), .int .i64 (o.lo : Int), .int .i64 (o.hi : Int), .int .i64 (o.nd : Int), .int .i64 (o.tn : Int), .int .i64 (o.sl : Int)]]) (by kernel_rfl) ((oValid_r (r := false) _ (hb10)).mono ?_))
    rintro e w24 ⟨rfl, hb⟩
    replace hE := hE.trans hb
    replace hX9 := hX9.trans hb
    have hs25 := hb.size
    clear hb
    refine ⟨_, rfl, ?_⟩
    refine pl_take (.bool false) rfl (by kernel_rfl) (by kernel_rfl) (by kernel_rfl) (by kernel_rfl) ?_
    refine pl_skip rfl (by kernel_rfl) (by kernel_rfl) (by kernel_rfl) ?_
    refine pl_skip rfl (by kernel_rfl) (by kernel_rfl) (by kernel_rfl) ?_
    refine pl_take (.bool false) rfl (by kernel_rfl) (by kernel_rfl) (by kernel_rfl) (by kernel_rfl) ?_
    refine pl_take (.bool false) rfl (by kernel_rfl) (by kernel_rfl) (by kernel_rfl) (by kernel_rfl) ?_
    refine pl_skip rfl (by kernel_rfl) (by kernel_rfl) (by kernel_rfl) ?_
    refine pl_skip rfl (by kernel_rfl) (by kernel_rfl) (by kernel_rfl) ?_
    refine pl_take (.bool false) rfl (by kernel_rfl) (by kernel_rfl) (by kernel_rfl) (by kernel_rfl) ?_
    refine pl_take (.bool false) rfl (by kernel_rfl) (by kernel_rfl) (by kernel_rfl) (by kernel_rfl) ?_
    refine pl_nil ?_
    refine qw_then ?_
    refine cw_clean [6] (ws' := [(6, .bool false)]) (by kernel_rfl) (fun L => ?_)
    refine cw_ret ?_
    refine qw_ret [.bool false] rfl ⟨(by kernel_rfl), trivial⟩ ?_
    exact ⟨congrArg (fun b => Ending.returned (Value.bool b)) (show Swath.shB o s l = false by simp [Swath.shB, hb10]).symm, hE⟩
theorem sValid_r (o : Orb) (s : Int × Int) (l : Int) {r : Bool} (w : World) (hr : Swath.shB o s l = r) : Calls Tryd.prog 19 #[.agg #[.int .i64 o.p, .int .i64 o.f, .int .i64 o.lo, .int .i64 o.hi, .int .i64 o.nd, .int .i64 o.tn, .int .i64 o.sl], .agg #[.int .i64 s.1, .int .i64 s.2], .int .i64 l] w fun e w' => e = .returned (.bool r) ∧ Ext w w' := hr ▸ sValid_c o s l w
set_option maxRecDepth 1000000 in
set_option maxHeartbeats 4000000 in
theorem delays_c (o : Orb) (w : World) : Calls Tryd.prog 49 #[.agg #[.int .i64 o.p, .int .i64 o.f, .int .i64 o.lo, .int .i64 o.hi, .int .i64 o.nd, .int .i64 o.tn, .int .i64 o.sl]] w fun e w' => ∃ B, e = .returned (.func (.func 68) #[] #[.pointer (some ⟨B, 0, none⟩)]) ∧ w.heap.size ≤ B ∧ w'.cell? ⟨B, 6, none⟩ = some (.int .i64 o.sl) ∧ Ext w w' := by
  refine calls_cw 4 [(0, .agg #[.int .i64 (o.p : Int), .int .i64 (o.f : Int), .int .i64 (o.lo : Int), .int .i64 (o.hi : Int), .int .i64 (o.nd : Int), .int .i64 (o.tn : Int), .int .i64 (o.sl : Int)])] Tryd.func49 rfl Tryd.ntmps49 (by kernel_rfl) (by kernel_rfl) (fun L => ?_)
  have hE : Ext w w := Ext.refl w
  refine cw_seq ?_
  refine cw_plain ?_
  refine pl_step rfl (by kernel_rfl) (by kernel_rfl) (by kernel_rfl) (sn_new (us := #[.int .i64 (o.p : Int), .int .i64 (o.f : Int), .int .i64 (o.lo : Int), .int .i64 (o.hi : Int), .int .i64 (o.nd : Int), .int .i64 (o.tn : Int), .int .i64 (o.sl : Int)]) (t := 26) (by kernel_rfl) ?_)
  intro O1 X2 hO hOs hb hbx
  have hzO1 := hO; have hyO1 := hOs; clear hO hOs
  have bO1_0 : BoxAt X2 O1 0 (.int .i64 (o.p : Int)) := hbx 0 _ rfl
  have bO1_1 : BoxAt X2 O1 1 (.int .i64 (o.f : Int)) := hbx 1 _ rfl
  have bO1_2 : BoxAt X2 O1 2 (.int .i64 (o.lo : Int)) := hbx 2 _ rfl
  have bO1_3 : BoxAt X2 O1 3 (.int .i64 (o.hi : Int)) := hbx 3 _ rfl
  have bO1_4 : BoxAt X2 O1 4 (.int .i64 (o.nd : Int)) := hbx 4 _ rfl
  have bO1_5 : BoxAt X2 O1 5 (.int .i64 (o.tn : Int)) := hbx 5 _ rfl
  have bO1_6 : BoxAt X2 O1 6 (.int .i64 (o.sl : Int)) := hbx 6 _ rfl
  clear hbx
  replace hE := hE.trans hb
  have hs3 := hb.size
  clear hb
  have lt4 := bO1_0.lt
  refine pl_take (Value.nilFunc) rfl (by kernel_rfl) (by kernel_rfl) (by kernel_rfl) (by kernel_rfl) ?_
  refine pl_nil ?_
  refine qw_then ?_
  refine cw_seq ?_
  have hX5 : Ext X2 X2 := Ext.refl _
  refine cw_plain ?_
  refine pl_take (.func (.func 68) #[] #[.pointer (some ⟨O1, 0, none⟩)]) rfl (by kernel_rfl) (by kernel_rfl) (by kernel_rfl) (by kernel_rfl) ?_
  refine pl_take (.func (.func 68) #[] #[.pointer (some ⟨O1, 0, none⟩)]) rfl (by kernel_rfl) (by kernel_rfl) (by kernel_rfl) (by kernel_rfl) ?_
  refine pl_nil ?_
  refine qw_then ?_
  refine cw_ret ?_
  refine qw_ret [.func (.func 68) #[] #[.pointer (some ⟨O1, 0, none⟩)]] rfl ⟨(by kernel_rfl), trivial⟩ ?_
  exact ⟨O1, rfl, (Nat.le_of_eq hzO1), bO1_6.1, hE⟩
set_option maxRecDepth 1000000 in
set_option maxHeartbeats 4000000 in
theorem shown_c (o : Orb) (s : Int × Int) (l d : Int) (w : World) : Calls Tryd.prog 39 #[.agg #[.int .i64 o.p, .int .i64 o.f, .int .i64 o.lo, .int .i64 o.hi, .int .i64 o.nd, .int .i64 o.tn, .int .i64 o.sl], .agg #[.int .i64 s.1, .int .i64 s.2], .int .i64 l, .int .i64 d] w fun e w' => ∃ B1 B2 B3 B4, e = .returned (.func (.func 61) #[] #[.pointer (some ⟨B1, 0, none⟩), .pointer (some ⟨B2, 0, none⟩), .pointer (some ⟨B3, 0, none⟩), .pointer (some ⟨B4, 0, none⟩)]) ∧ (w.heap.size ≤ B1 ∧ w.heap.size ≤ B2 ∧ w.heap.size ≤ B3 ∧ w.heap.size ≤ B4) ∧ ShownAt w' B1 B2 B3 B4 o s l d ∧ Ext w w' := by
  refine calls_cw 10 [(3, .int .i64 (d : Int)), (2, .int .i64 (l : Int)), (1, .agg #[.int .i64 (s.1 : Int), .int .i64 (s.2 : Int)]), (0, .agg #[.int .i64 (o.p : Int), .int .i64 (o.f : Int), .int .i64 (o.lo : Int), .int .i64 (o.hi : Int), .int .i64 (o.nd : Int), .int .i64 (o.tn : Int), .int .i64 (o.sl : Int)])] Tryd.func39 rfl Tryd.ntmps39 (by kernel_rfl) (by kernel_rfl) (fun L => ?_)
  have hE : Ext w w := Ext.refl w
  refine cw_seq ?_
  refine cw_plain ?_
  refine pl_step rfl (by kernel_rfl) (by kernel_rfl) (by kernel_rfl) (sn_new (us := #[.int .i64 (o.p : Int), .int .i64 (o.f : Int), .int .i64 (o.lo : Int), .int .i64 (o.hi : Int), .int .i64 (o.nd : Int), .int .i64 (o.tn : Int), .int .i64 (o.sl : Int)]) (t := 26) (by kernel_rfl) ?_)
  intro O1 X2 hO hOs hb hbx
  have hzO1 := hO; have hyO1 := hOs; clear hO hOs
  have bO1_0 : BoxAt X2 O1 0 (.int .i64 (o.p : Int)) := hbx 0 _ rfl
  have bO1_1 : BoxAt X2 O1 1 (.int .i64 (o.f : Int)) := hbx 1 _ rfl
  have bO1_2 : BoxAt X2 O1 2 (.int .i64 (o.lo : Int)) := hbx 2 _ rfl
  have bO1_3 : BoxAt X2 O1 3 (.int .i64 (o.hi : Int)) := hbx 3 _ rfl
  have bO1_4 : BoxAt X2 O1 4 (.int .i64 (o.nd : Int)) := hbx 4 _ rfl
  have bO1_5 : BoxAt X2 O1 5 (.int .i64 (o.tn : Int)) := hbx 5 _ rfl
  have bO1_6 : BoxAt X2 O1 6 (.int .i64 (o.sl : Int)) := hbx 6 _ rfl
  clear hbx
  replace hE := hE.trans hb
  have hs3 := hb.size
  clear hb
  have lt4 := bO1_0.lt
  refine pl_step rfl (by kernel_rfl) (by kernel_rfl) (by kernel_rfl) (sn_new (us := #[.int .i64 (s.1 : Int), .int .i64 (s.2 : Int)]) (t := 29) (by kernel_rfl) ?_)
  intro O5 X6 hO hOs hb hbx
  have hzO5 := hO; have hyO5 := hOs; clear hO hOs
  have bO5_0 : BoxAt X6 O5 0 (.int .i64 (s.1 : Int)) := hbx 0 _ rfl
  have bO5_1 : BoxAt X6 O5 1 (.int .i64 (s.2 : Int)) := hbx 1 _ rfl
  clear hbx
  replace hE := hE.trans hb
  replace bO1_0 := BoxAt.ext hb bO1_0
  replace bO1_1 := BoxAt.ext hb bO1_1
  replace bO1_2 := BoxAt.ext hb bO1_2
  replace bO1_3 := BoxAt.ext hb bO1_3
  replace bO1_4 := BoxAt.ext hb bO1_4
  replace bO1_5 := BoxAt.ext hb bO1_5
  replace bO1_6 := BoxAt.ext hb bO1_6
  have hs7 := hb.size
  clear hb
  have lt8 := bO5_0.lt
  refine pl_step rfl (by kernel_rfl) (by kernel_rfl) (by kernel_rfl) (sn_new (us := #[.int .i64 (l : Int)]) (t := 3) (by kernel_rfl) ?_)
  intro O9 X10 hO hOs hb hbx
  have hzO9 := hO; have hyO9 := hOs; clear hO hOs
  have bO9_0 : BoxAt X10 O9 0 (.int .i64 (l : Int)) := hbx 0 _ rfl
  clear hbx
  replace hE := hE.trans hb
  replace bO1_0 := BoxAt.ext hb bO1_0
  replace bO1_1 := BoxAt.ext hb bO1_1
  replace bO1_2 := BoxAt.ext hb bO1_2
  replace bO1_3 := BoxAt.ext hb bO1_3
  replace bO1_4 := BoxAt.ext hb bO1_4
  replace bO1_5 := BoxAt.ext hb bO1_5
  replace bO1_6 := BoxAt.ext hb bO1_6
  replace bO5_0 := BoxAt.ext hb bO5_0
  replace bO5_1 := BoxAt.ext hb bO5_1
  have hs11 := hb.size
  clear hb
  have lt12 := bO9_0.lt
  refine pl_step rfl (by kernel_rfl) (by kernel_rfl) (by kernel_rfl) (sn_new (us := #[.int .i64 (d : Int)]) (t := 3) (by kernel_rfl) ?_)
  intro O13 X14 hO hOs hb hbx
  have hzO13 := hO; have hyO13 := hOs; clear hO hOs
  have bO13_0 : BoxAt X14 O13 0 (.int .i64 (d : Int)) := hbx 0 _ rfl
  clear hbx
  replace hE := hE.trans hb
  replace bO1_0 := BoxAt.ext hb bO1_0
  replace bO1_1 := BoxAt.ext hb bO1_1
  replace bO1_2 := BoxAt.ext hb bO1_2
  replace bO1_3 := BoxAt.ext hb bO1_3
  replace bO1_4 := BoxAt.ext hb bO1_4
  replace bO1_5 := BoxAt.ext hb bO1_5
  replace bO1_6 := BoxAt.ext hb bO1_6
  replace bO5_0 := BoxAt.ext hb bO5_0
  replace bO5_1 := BoxAt.ext hb bO5_1
  replace bO9_0 := BoxAt.ext hb bO9_0
  have hs15 := hb.size
  clear hb
  have lt16 := bO13_0.lt
  refine pl_take (Value.nilFunc) rfl (by kernel_rfl) (by kernel_rfl) (by kernel_rfl) (by kernel_rfl) ?_
  refine pl_nil ?_
  refine qw_then ?_
  refine cw_seq ?_
  have hX17 : Ext X14 X14 := Ext.refl _
  refine cw_plain ?_
  refine pl_take (.func (.func 61) #[] #[.pointer (some ⟨O5, 0, none⟩), .pointer (some ⟨O1, 0, none⟩), .pointer (some ⟨O13, 0, none⟩), .pointer (some ⟨O9, 0, none⟩)]) rfl (by kernel_rfl) (by kernel_rfl) (by kernel_rfl) (by kernel_rfl) ?_
  refine pl_take (.func (.func 61) #[] #[.pointer (some ⟨O5, 0, none⟩), .pointer (some ⟨O1, 0, none⟩), .pointer (some ⟨O13, 0, none⟩), .pointer (some ⟨O9, 0, none⟩)]) rfl (by kernel_rfl) (by kernel_rfl) (by kernel_rfl) (by kernel_rfl) ?_
  refine pl_nil ?_
  refine qw_then ?_
  refine cw_ret ?_
  refine qw_ret [.func (.func 61) #[] #[.pointer (some ⟨O5, 0, none⟩), .pointer (some ⟨O1, 0, none⟩), .pointer (some ⟨O13, 0, none⟩), .pointer (some ⟨O9, 0, none⟩)]] rfl ⟨(by kernel_rfl), trivial⟩ ?_
  exact ⟨O5, O1, O13, O9, rfl, ⟨(Nat.le_trans hs3 (Nat.le_of_eq hzO5)), (Nat.le_of_eq hzO1), (Nat.le_trans (Nat.le_trans hs3 (Nat.le_trans hs7 hs11)) (Nat.le_of_eq hzO13)), (Nat.le_trans (Nat.le_trans hs3 hs7) (Nat.le_of_eq hzO9))⟩, ⟨bO5_0.1, bO5_1.1, bO1_0.1, bO1_1.1, bO1_2.1, bO1_3.1, bO1_4.1, bO1_5.1, bO1_6.1, bO13_0.1, bO9_0.1⟩, hE⟩

end Go.Proofs.YtdjjkhefdalokaaDoor

/- The iterators of package swath: delays, shown. -/
namespace Go.Proofs.YtdjjkhefdalokaaDoor
open Go.RowKit

set_option maxRecDepth 1000000 in
set_option maxHeartbeats 4000000 in
theorem delays_seq {o : Orb} {B : Nat} {X : Nat → Prop} {w0 : World} (hok : Orb.ok o = true) (hX : ¬ X B) (c6 : w0.cell? ⟨B, 6, none⟩ = some (.int .i64 o.sl)) :
    SeqN Tryd.prog 68 #[.pointer (some ⟨B, 0, none⟩)] (2 * o.sl + 1).toNat (fun i => [.int .i64 (-o.sl + ((i : Nat) : Int))]) (fun _ _ => True) X w0 := by
  intro l J Jx w hW hJst hJxst hY hJ0 n
  have hq0 := Orb.ok_t.1 hok
  replace c6 := hW.cell c6
  refine icalls 17 [(1, .pointer (some ⟨B, 0, none⟩)), (0, .func (.yield l) #[] #[])] Tryd.func68 rfl Tryd.ntmps68 (by kernel_rfl) (by kernel_rfl) (fun L mm => ?_)
  have hE : Ext w w := Ext.refl w
  refine icw_seq ?_
  refine icw_plain ?_
  refine ipl_take (.pointer (some ⟨B, 6, none⟩)) rfl (by kernel_rfl) (by kernel_rfl) (by kernel_rfl) (by kernel_rfl) ?_
  refine ipl_take (.int .i64 (o.sl : Int)) rfl (by kernel_rfl) (by kernel_rfl) (by kernel_rfl) (ex_load rfl (by kernel_rfl) (ld3 (c6))) ?_
  refine ipl_take (.int .i64 (-o.sl + ((0 : Nat) : Int) : Int)) rfl (by kernel_rfl) (by kernel_rfl) (by kernel_rfl) (ev_int (ev_wrap (a := 0 - o.sl) (by kernel_rfl) (by omega) (by omega)) (by omega)) ?_
  refine ipl_take (.int .i64 (-o.sl + ((0 : Nat) : Int) : Int)) rfl (by kernel_rfl) (by kernel_rfl) (by kernel_rfl) (by kernel_rfl) ?_
  refine ipl_nil ?_
  refine iqw_then ?_
  refine icw_block ?_
  have hJs1 := hJst _ _ _ hJ0 (Ext.refl _)
  refine icw_loop [0, 1, 3] (fun ws' wr m => ∃ i : Nat, ws' = [(0, .func (.yield l) #[] #[]), (1, .pointer (some ⟨B, 0, none⟩)), (3, .int .i64 (-o.sl + ((i : Nat) : Int) : Int))] ∧ m = (2 * o.sl + 1).toNat - i ∧ w.heap.size ≤ wr.heap.size ∧ wr.cell? ⟨B, 6, none⟩ = some (.int .i64 (o.sl : Int)) ∧ J i wr ∧ i ≤ (2 * o.sl + 1).toNat) (ws0 := [(0, .func (.yield l) #[] #[]), (1, .pointer (some ⟨B, 0, none⟩)), (3, .int .i64 (-o.sl + ((0 : Nat) : Int) : Int))]) (by kernel_rfl) _ ⟨0, rfl, rfl, Nat.le_refl _, c6, hJs1, by omega⟩ ?_
  clear c6
  rintro m4 L ws w3 ⟨i, rfl, rfl, hs2, c6, hJ9, hi⟩
  have hX5 : Ext w3 w3 := Ext.refl _
  by_cases hlt : i < (2 * o.sl + 1).toNat
  ·
    refine icw_seq ?_
    refine icw_seq ?_
    refine icw_plain ?_
    refine ipl_take (.int .i64 (-o.sl + ((i : Nat) : Int) : Int)) rfl (by kernel_rfl) (by kernel_rfl) (by kernel_rfl) (by kernel_rfl) ?_
    refine ipl_take (.pointer (some ⟨B, 6, none⟩)) rfl (by kernel_rfl) (by kernel_rfl) (by kernel_rfl) (by kernel_rfl) ?_
    refine ipl_take (.int .i64 (o.sl : Int)) rfl (by kernel_rfl) (by kernel_rfl) (by kernel_rfl) (ex_load rfl (by kernel_rfl) (ld3 (c6))) ?_
    refine ipl_take (.bool true) rfl (by kernel_rfl) (by kernel_rfl) (by kernel_rfl) (ev_dec (show _ = Result.ok (Next.value (Value.bool (decide ((-o.sl + ((i : Nat) : Int) : Int) ≤ (o.sl : Int))))) _ from by kernel_rfl) (by omega)) ?_
    refine ipl_nil ?_
    refine iqw_then ?_
    refine icw_t (by kernel_rfl) ?_
    refine icw_skip ?_
    refine iqw_then ?_
    refine icw_seq ?_
    refine icw_block ?_
    refine icw_seq ?_
    refine icw_plain ?_
    refine ipl_take (.func (.yield l) #[] #[]) rfl (by kernel_rfl) (by kernel_rfl) (by kernel_rfl) (by kernel_rfl) ?_
    refine ipl_take (.int .i64 (-o.sl + ((i : Nat) : Int) : Int)) rfl (by kernel_rfl) (by kernel_rfl) (by kernel_rfl) (by kernel_rfl) ?_
    refine ipl_yield rfl (by kernel_rfl) (by kernel_rfl) (by kernel_rfl) (sy_yield (args := #[.int .i64 (-o.sl + ((i : Nat) : Int) : Int)]) rfl (by kernel_rfl) (by kernel_rfl) (yield_mono (hY i _ _ (by omega) (hJst _ _ _ hJ9 (Ext.refl _)) trivial) ?_))
    rintro e w6 (⟨rfl, hJ7, hk8⟩ | ⟨rfl, hJ7, hk8⟩)
    ·
      replace c6 := hk8.cell hX c6
      have hs9 := hk8.size
      have hX10 : Ext w6 w6 := Ext.refl _
      refine ⟨_, rfl, ?_⟩
      refine ipl_take (.bool false) rfl (by kernel_rfl) (by kernel_rfl) (by kernel_rfl) (by kernel_rfl) ?_
      refine ipl_nil ?_
      refine iqw_then ?_
      refine icw_f (by kernel_rfl) ?_
      refine icw_skip ?_
      refine iqw_block ?_
      refine iqw_then ?_
      refine icw_plain ?_
      refine ipl_take (.int .i64 (-o.sl + ((i : Nat) : Int) : Int)) rfl (by kernel_rfl) (by kernel_rfl) (by kernel_rfl) (by kernel_rfl) ?_
      refine ipl_take (.int .i64 (-o.sl + ((i + 1 : Nat) : Int) : Int)) rfl (by kernel_rfl) (by kernel_rfl) (by kernel_rfl) (ev_int (ev_wrap (a := -o.sl + ((i : Nat) : Int) + 1) (by kernel_rfl) (by omega) (by omega)) (by omega)) ?_
      refine ipl_take (.int .i64 (-o.sl + ((i + 1 : Nat) : Int) : Int)) rfl (by kernel_rfl) (by kernel_rfl) (by kernel_rfl) (by kernel_rfl) ?_
      refine ipl_nil ?_
      refine iqw_round [0, 1, 3] (ws' := [(0, .func (.yield l) #[] #[]), (1, .pointer (some ⟨B, 0, none⟩)), (3, .int .i64 (-o.sl + ((i + 1 : Nat) : Int) : Int))]) (by kernel_rfl) _ ?_ ⟨(i + 1), rfl, rfl, (Nat.le_trans hs2 hs9), c6, (hJst _ _ _ hJ7 (Ext.refl _)), by omega⟩
      omega
    ·
      replace c6 := hk8.cell hX c6
      have hs11 := hk8.size
      have hX12 : Ext w6 w6 := Ext.refl _
      refine ⟨_, rfl, ?_⟩
      refine ipl_take (.bool true) rfl (by kernel_rfl) (by kernel_rfl) (by kernel_rfl) (by kernel_rfl) ?_
      refine ipl_nil ?_
      refine iqw_then ?_
      refine icw_t (by kernel_rfl) ?_
      refine icw_ret ?_
      refine iqw_block_ret ?_
      refine iqw_then_ret ?_
      refine iqw_then_ret ?_
      refine iqw_block_ret ?_
      refine iqw_ret0 [] rfl trivial ?_
      exact ⟨⟨_, rfl⟩, .inr ⟨i, by omega, hJxst _ _ _ hJ7 (Ext.refl _)⟩⟩
  ·
    have hin : i = (2 * o.sl + 1).toNat := by omega
    refine icw_seq ?_
    refine icw_seq ?_
    refine icw_plain ?_
    refine ipl_take (.int .i64 (-o.sl + ((i : Nat) : Int) : Int)) rfl (by kernel_rfl) (by kernel_rfl) (by kernel_rfl) (by kernel_rfl) ?_
    refine ipl_take (.pointer (some ⟨B, 6, none⟩)) rfl (by kernel_rfl) (by kernel_rfl) (by kernel_rfl) (by kernel_rfl) ?_
    refine ipl_take (.int .i64 (o.sl : Int)) rfl (by kernel_rfl) (by kernel_rfl) (by kernel_rfl) (ex_load rfl (by kernel_rfl) (ld3 (c6))) ?_
    refine ipl_take (.bool false) rfl (by kernel_rfl) (by kernel_rfl) (by kernel_rfl) (ev_ndec (show _ = Result.ok (Next.value (Value.bool (decide ((-o.sl + ((i : Nat) : Int) : Int) ≤ (o.sl : Int))))) _ from by kernel_rfl) (by omega)) ?_
    refine ipl_nil ?_
    refine iqw_then ?_
    refine icw_f (by kernel_rfl) ?_
    refine icw_exit ?_
    refine iqw_then_exit ?_
    refine iqw_then_exit ?_
    refine iqw_block_out ?_
    refine iqw_end0 [] rfl trivial ?_
    exact ⟨⟨_, rfl⟩, .inl (hin ▸ hJst _ _ _ hJ9 (Ext.refl _))⟩
set_option maxRecDepth 1000000 in
set_option maxHeartbeats 4000000 in
theorem shown_seq {o : Orb} {s : Int × Int} {lk d : Int} {B1 B2 B3 B4 : Nat} {X : Nat → Prop} {w0 : World} (hv : Swath.shB o s lk = true) (hd9 : Globe.inB d (-o.sl) o.sl = true) (hX : ∀ b, b = B1 ∨ b = B2 ∨ b = B3 ∨ b = B4 → ¬ X b) (hXl : ∀ k, X k → k < w0.heap.size) (hS : ShownAt w0 B1 B2 B3 B4 o s lk d) :
    SeqN Tryd.prog 61 #[.pointer (some ⟨B1, 0, none⟩), .pointer (some ⟨B2, 0, none⟩), .pointer (some ⟨B3, 0, none⟩), .pointer (some ⟨B4, 0, none⟩)] (s.2 - s.1).toNat (fun i => [.agg #[.int .i64 ((Swath.sx o lk (s.1 + ((i : Nat) : Int) - d) : Nat) : Int), .int .i64 ((Orb.cy o (s.1 + ((i : Nat) : Int) - d) : Nat) : Int), .int .i64 (s.1 + ((i : Nat) : Int))]]) (fun _ _ => True) X w0 := by
  intro l J Jx w hW hJst hJxst hY hJ0 n
  obtain ⟨hok, ⟨sp0, sp1, sp2, sp3⟩, hl0, hl1⟩ := Swath.shB_t.1 hv
  have hq0 := Orb.ok_t.1 hok
  have hd := Globe.inB_t.1 hd9
  obtain ⟨a0, a1, o0, o1, o2, o3, o4, o5, o6, d0, l0⟩ := hS
  replace a0 := hW.cell a0
  replace a1 := hW.cell a1
  replace o0 := hW.cell o0
  replace o1 := hW.cell o1
  replace o2 := hW.cell o2
  replace o3 := hW.cell o3
  replace o4 := hW.cell o4
  replace o5 := hW.cell o5
  replace o6 := hW.cell o6
  replace d0 := hW.cell d0
  replace l0 := hW.cell l0
  have hbB1 : B1 < w.heap.size := World.block_lt_of_cell? _ _ a0
  have hbB2 : B2 < w.heap.size := World.block_lt_of_cell? _ _ o0
  have hbB3 : B3 < w.heap.size := World.block_lt_of_cell? _ _ d0
  have hbB4 : B4 < w.heap.size := World.block_lt_of_cell? _ _ l0
  refine icalls 39 [(4, .pointer (some ⟨B4, 0, none⟩)), (3, .pointer (some ⟨B3, 0, none⟩)), (2, .pointer (some ⟨B2, 0, none⟩)), (1, .pointer (some ⟨B1, 0, none⟩)), (0, .func (.yield l) #[] #[])] Tryd.func61 rfl Tryd.ntmps61 (by kernel_rfl) (by kernel_rfl) (fun L mm => ?_)
  have hE : Ext w w := Ext.refl w
  refine icw_seq ?_
  refine icw_plain ?_
  refine ipl_take (.pointer (some ⟨B1, 0, none⟩)) rfl (by kernel_rfl) (by kernel_rfl) (by kernel_rfl) (by kernel_rfl) ?_
  refine ipl_take (.int .i64 (s.1 : Int)) rfl (by kernel_rfl) (by kernel_rfl) (by kernel_rfl) (ex_load rfl (by kernel_rfl) (ld3 (a0))) ?_
  refine ipl_take (.int .i64 (s.1 + ((0 : Nat) : Int) : Int)) rfl (by kernel_rfl) (by kernel_rfl) (by kernel_rfl) (ev_int (show _ = Result.ok (Next.value (Value.int .i64 s.1)) _ from by kernel_rfl) (by omega)) ?_
  refine ipl_nil ?_
  refine iqw_then ?_
  refine icw_block ?_
  have hJs1 := hJst _ _ _ hJ0 (Ext.refl _)
  refine icw_loop [0, 1, 2, 3, 4, 6] (fun ws' wr m => ∃ i : Nat, ws' = [(0, .func (.yield l) #[] #[]), (1, .pointer (some ⟨B1, 0, none⟩)), (2, .pointer (some ⟨B2, 0, none⟩)), (3, .pointer (some ⟨B3, 0, none⟩)), (4, .pointer (some ⟨B4, 0, none⟩)), (6, .int .i64 (s.1 + ((i : Nat) : Int) : Int))] ∧ m = (s.2 - s.1).toNat - i ∧ w.heap.size ≤ wr.heap.size ∧ wr.cell? ⟨B1, 0, none⟩ = some (.int .i64 (s.1 : Int)) ∧ wr.cell? ⟨B1, 1, none⟩ = some (.int .i64 (s.2 : Int)) ∧ wr.cell? ⟨B2, 0, none⟩ = some (.int .i64 (o.p : Int)) ∧ wr.cell? ⟨B2, 1, none⟩ = some (.int .i64 (o.f : Int)) ∧ wr.cell? ⟨B2, 2, none⟩ = some (.int .i64 (o.lo : Int)) ∧ wr.cell? ⟨B2, 3, none⟩ = some (.int .i64 (o.hi : Int)) ∧ wr.cell? ⟨B2, 4, none⟩ = some (.int .i64 (o.nd : Int)) ∧ wr.cell? ⟨B2, 5, none⟩ = some (.int .i64 (o.tn : Int)) ∧ wr.cell? ⟨B2, 6, none⟩ = some (.int .i64 (o.sl : Int)) ∧ wr.cell? ⟨B3, 0, none⟩ = some (.int .i64 (d : Int)) ∧ wr.cell? ⟨B4, 0, none⟩ = some (.int .i64 (lk : Int)) ∧ J i wr ∧ i ≤ (s.2 - s.1).toNat) (ws0 := [(0, .func (.yield l) #[] #[]), (1, .pointer (some ⟨B1, 0, none⟩)), (2, .pointer (some ⟨B2, 0, none⟩)), (3, .pointer (some ⟨B3, 0, none⟩)), (4, .pointer (some ⟨B4, 0, none⟩)), (6, .int .i64 (s.1 + ((0 : Nat) : Int) : Int))]) (by kernel_rfl) _ ⟨0, rfl, rfl, Nat.le_refl _, a0, a1, o0, o1, o2, o3, o4, o5, o6, d0, l0, hJs1, by omega⟩ ?_
  clear a0 a1 o0 o1 o2 o3 o4 o5 o6 d0 l0
  rintro m4 L ws w3 ⟨i, rfl, rfl, hs2, a0, a1, o0, o1, o2, o3, o4, o5, o6, d0, l0, hJ9, hi⟩
  have hX5 : Ext w3 w3 := Ext.refl _
  by_cases hlt : i < (s.2 - s.1).toNat
  ·
    have hat : Orb.atB o (s.1 + ((i : Nat) : Int)) d = true := by unfold Orb.atB; rw [Globe.inB_t.2 ⟨by omega, by omega⟩, Globe.inB_t.2 ⟨by omega, by omega⟩, hok]; rfl
    have hcx := Orb.cx_lt o (s.1 + ((i : Nat) : Int) - d)
    refine icw_seq ?_
    refine icw_seq ?_
    refine icw_plain ?_
    refine ipl_take (.int .i64 (s.1 + ((i : Nat) : Int) : Int)) rfl (by kernel_rfl) (by kernel_rfl) (by kernel_rfl) (by kernel_rfl) ?_
    refine ipl_take (.pointer (some ⟨B1, 1, none⟩)) rfl (by kernel_rfl) (by kernel_rfl) (by kernel_rfl) (by kernel_rfl) ?_
    refine ipl_take (.int .i64 (s.2 : Int)) rfl (by kernel_rfl) (by kernel_rfl) (by kernel_rfl) (ex_load rfl (by kernel_rfl) (ld3 (a1))) ?_
    refine ipl_take (.bool true) rfl (by kernel_rfl) (by kernel_rfl) (by kernel_rfl) (ev_dec (show _ = Result.ok (Next.value (Value.bool (decide ((s.1 + ((i : Nat) : Int) : Int) < (s.2 : Int))))) _ from by kernel_rfl) (by omega)) ?_
    refine ipl_nil ?_
    refine iqw_then ?_
    refine icw_t (by kernel_rfl) ?_
    refine icw_skip ?_
    refine iqw_then ?_
    refine icw_seq ?_
    refine icw_block ?_
    refine icw_seq ?_
    refine icw_plain ?_
    refine ipl_take (.agg #[.int .i64 (o.p : Int), .int .i64 (o.f : Int), .int .i64 (o.lo : Int), .int .i64 (o.hi : Int), .int .i64 (o.nd : Int), .int .i64 (o.tn : Int), .int .i64 (o.sl : Int)]) rfl (by kernel_rfl) (by kernel_rfl) (by kernel_rfl) (ex_load rfl (by kernel_rfl) (ld26 (o0) (o1) (o2) (o3) (o4) (o5) (o6))) ?_
    refine ipl_take (.int .i64 (s.1 + ((i : Nat) : Int) : Int)) rfl (by kernel_rfl) (by kernel_rfl) (by kernel_rfl) (by kernel_rfl) ?_
    refine ipl_take (.int .i64 (d : Int)) rfl (by kernel_rfl) (by kernel_rfl) (by kernel_rfl) (ex_load rfl (by kernel_rfl) (ld3 (d0))) ?_
    refine ipl_step rfl (by kernel_rfl) (by kernel_rfl) (by kernel_rfl) (sn_call (f := 8) (args := #[.agg #[.int .i64 (o.p : Int), .int .i64 (o.f : Int), .int .i64 (o.lo : Int), .int .i64 (o.hi : Int), .int .i64 (o.nd : Int), .int .i64 (o.tn : Int), .int .i64 (o.sl : Int)], .int .i64 (s.1 + ((i : Nat) : Int) : Int), .int .i64 (d : Int)]) (by kernel_rfl) ((At_y o (s.1 + ((i : Nat) : Int)) d _ (hat)).mono ?_))
    rintro e w6 ⟨rfl, hb⟩
    replace hX5 := hX5.trans hb
    replace a0 := hb.cell a0
    replace a1 := hb.cell a1
    replace o0 := hb.cell o0
    replace o1 := hb.cell o1
    replace o2 := hb.cell o2
    replace o3 := hb.cell o3
    replace o4 := hb.cell o4
    replace o5 := hb.cell o5
    replace o6 := hb.cell o6
    replace d0 := hb.cell d0
    replace l0 := hb.cell l0
    have hs7 := hb.size
    clear hb
    refine ⟨_, rfl, ?_⟩
    refine ipl_take (.tuple #[.agg #[.int .i64 (((Orb.cx o ((s.1 + ((i : Nat) : Int)) - d) : Nat) : Int) : Int), .int .i64 (((Orb.cy o ((s.1 + ((i : Nat) : Int)) - d) : Nat) : Int) : Int)], .int .i64 0]) rfl (by kernel_rfl) (by kernel_rfl) (by kernel_rfl) (by kernel_rfl) ?_
    refine ipl_take (.agg #[.int .i64 (((Orb.cx o ((s.1 + ((i : Nat) : Int)) - d) : Nat) : Int) : Int), .int .i64 (((Orb.cy o ((s.1 + ((i : Nat) : Int)) - d) : Nat) : Int) : Int)]) rfl (by kernel_rfl) (by kernel_rfl) (by kernel_rfl) (by kernel_rfl) ?_
    refine ipl_take (.int .i64 0) rfl (by kernel_rfl) (by kernel_rfl) (by kernel_rfl) (by kernel_rfl) ?_
    refine ipl_step rfl (by kernel_rfl) (by kernel_rfl) (by kernel_rfl) (sn_new (us := #[.int .i64 0, .int .i64 0]) (t := 33) (by kernel_rfl) ?_)
    intro O8 X9 hO hOs hb hbx
    have hzO8 := hO; have hyO8 := hOs; clear hO hOs
    have bO8_0 : BoxAt X9 O8 0 (.int .i64 0) := hbx 0 _ rfl
    have bO8_1 : BoxAt X9 O8 1 (.int .i64 0) := hbx 1 _ rfl
    clear hbx
    replace hX5 := hX5.trans hb
    replace a0 := hb.cell a0
    replace a1 := hb.cell a1
    replace o0 := hb.cell o0
    replace o1 := hb.cell o1
    replace o2 := hb.cell o2
    replace o3 := hb.cell o3
    replace o4 := hb.cell o4
    replace o5 := hb.cell o5
    replace o6 := hb.cell o6
    replace d0 := hb.cell d0
    replace l0 := hb.cell l0
    have hs10 := hb.size
    clear hb
    have lt11 := bO8_0.lt
    refine ipl_put rfl (by kernel_rfl) (by kernel_rfl) (sn_set2 (O := O8) (j := 0) (v := .int .i64 (((Orb.cx o ((s.1 + ((i : Nat) : Int)) - d) : Nat) : Int) : Int)) (v' := .int .i64 (((Orb.cy o ((s.1 + ((i : Nat) : Int)) - d) : Nat) : Int) : Int)) (ex_store (p := .pointer (some ⟨O8, 0, none⟩)) (v := .agg #[.int .i64 (((Orb.cx o ((s.1 + ((i : Nat) : Int)) - d) : Nat) : Int) : Int), .int .i64 (((Orb.cy o ((s.1 + ((i : Nat) : Int)) - d) : Nat) : Int) : Int)]) rfl (by kernel_rfl) (by kernel_rfl) (st33 bO8_0.1 bO8_0.2 bO8_1.1 bO8_1.2)) bO8_0 bO8_1 ?_)
    intro X12 ho hv0 hv1 hk
    replace hX5 := ho.ext hX5 (Nat.le_trans hs7 (Nat.le_of_eq hzO8))
    replace a0 := ho.cell (Nat.ne_of_gt (Nat.lt_of_lt_of_le hbB1 (Nat.le_trans (Nat.le_trans hs2 hs7) (Nat.le_of_eq hzO8)))) a0
    replace a1 := ho.cell (Nat.ne_of_gt (Nat.lt_of_lt_of_le hbB1 (Nat.le_trans (Nat.le_trans hs2 hs7) (Nat.le_of_eq hzO8)))) a1
    replace o0 := ho.cell (Nat.ne_of_gt (Nat.lt_of_lt_of_le hbB2 (Nat.le_trans (Nat.le_trans hs2 hs7) (Nat.le_of_eq hzO8)))) o0
    replace o1 := ho.cell (Nat.ne_of_gt (Nat.lt_of_lt_of_le hbB2 (Nat.le_trans (Nat.le_trans hs2 hs7) (Nat.le_of_eq hzO8)))) o1
    replace o2 := ho.cell (Nat.ne_of_gt (Nat.lt_of_lt_of_le hbB2 (Nat.le_trans (Nat.le_trans hs2 hs7) (Nat.le_of_eq hzO8)))) o2
    replace o3 := ho.cell (Nat.ne_of_gt (Nat.lt_of_lt_of_le hbB2 (Nat.le_trans (Nat.le_trans hs2 hs7) (Nat.le_of_eq hzO8)))) o3
    replace o4 := ho.cell (Nat.ne_of_gt (Nat.lt_of_lt_of_le hbB2 (Nat.le_trans (Nat.le_trans hs2 hs7) (Nat.le_of_eq hzO8)))) o4
    replace o5 := ho.cell (Nat.ne_of_gt (Nat.lt_of_lt_of_le hbB2 (Nat.le_trans (Nat.le_trans hs2 hs7) (Nat.le_of_eq hzO8)))) o5
    replace o6 := ho.cell (Nat.ne_of_gt (Nat.lt_of_lt_of_le hbB2 (Nat.le_trans (Nat.le_trans hs2 hs7) (Nat.le_of_eq hzO8)))) o6
    replace d0 := ho.cell (Nat.ne_of_gt (Nat.lt_of_lt_of_le hbB3 (Nat.le_trans (Nat.le_trans hs2 hs7) (Nat.le_of_eq hzO8)))) d0
    replace l0 := ho.cell (Nat.ne_of_gt (Nat.lt_of_lt_of_le hbB4 (Nat.le_trans (Nat.le_trans hs2 hs7) (Nat.le_of_eq hzO8)))) l0
    have hs13 : X9.heap.size ≤ X12.heap.size := Nat.le_of_eq ho.size.symm
    clear ho hk bO8_0 bO8_1
    have bO8_0 := hv0; clear hv0
    have bO8_1 := hv1; clear hv1
    refine ipl_take (.int .i64 0) rfl (by kernel_rfl) (by kernel_rfl) (by kernel_rfl) (by kernel_rfl) ?_
    refine ipl_nil ?_
    refine iqw_then ?_
    refine icw_clean [0, 1, 2, 3, 4, 6, 7, 8] (ws' := [(0, .func (.yield l) #[] #[]), (1, .pointer (some ⟨B1, 0, none⟩)), (2, .pointer (some ⟨B2, 0, none⟩)), (3, .pointer (some ⟨B3, 0, none⟩)), (4, .pointer (some ⟨B4, 0, none⟩)), (6, .int .i64 (s.1 + ((i : Nat) : Int) : Int)), (7, .pointer (some ⟨O8, 0, none⟩)), (8, .int .i64 0)]) (by kernel_rfl) (fun L => ?_)
    refine icw_seq ?_
    refine icw_seq ?_
    refine icw_plain ?_
    refine ipl_take (.int .i64 0) rfl (by kernel_rfl) (by kernel_rfl) (by kernel_rfl) (by kernel_rfl) ?_
    refine ipl_take (.bool false) rfl (by kernel_rfl) (by kernel_rfl) (by kernel_rfl) (by kernel_rfl) ?_
    refine ipl_nil ?_
    refine iqw_then ?_
    refine icw_f (by kernel_rfl) ?_
    refine icw_skip ?_
    refine iqw_then ?_
    refine icw_seq ?_
    refine icw_plain ?_
    refine ipl_take (.pointer (some ⟨O8, 0, none⟩)) rfl (by kernel_rfl) (by kernel_rfl) (by kernel_rfl) (by kernel_rfl) ?_
    refine ipl_take (.int .i64 (((Orb.cx o ((s.1 + ((i : Nat) : Int)) - d) : Nat) : Int) : Int)) rfl (by kernel_rfl) (by kernel_rfl) (by kernel_rfl) (ex_load rfl (by kernel_rfl) (ld3 (bO8_0.1))) ?_
    refine ipl_take (.int .i64 (lk : Int)) rfl (by kernel_rfl) (by kernel_rfl) (by kernel_rfl) (ex_load rfl (by kernel_rfl) (ld3 (l0))) ?_
    refine ipl_take (.int .i64 ((((Orb.cx o ((s.1 + ((i : Nat) : Int)) - d) : Nat) : Int)) + lk : Int)) rfl (by kernel_rfl) (by kernel_rfl) (by kernel_rfl) (ev_wrap (by kernel_rfl) (by omega) (by omega)) ?_
    refine ipl_take (.int .i64 (((((Orb.cx o ((s.1 + ((i : Nat) : Int)) - d) : Nat) : Int)) + lk) + 48 : Int)) rfl (by kernel_rfl) (by kernel_rfl) (by kernel_rfl) (ev_wrap (by kernel_rfl) (by omega) (by omega)) ?_
    refine ipl_take (.int .i64 (((Swath.sx o lk (s.1 + ((i : Nat) : Int) - d) : Nat) : Int) : Int)) rfl (by kernel_rfl) (by kernel_rfl) (by kernel_rfl) (ev_int (ex_bin (a := ((Orb.cx o (s.1 + ((i : Nat) : Int) - d) : Nat) : Int) + lk + 48) (b := 48) rfl (by kernel_rfl) (by kernel_rfl) (bin_tmod (by omega))) ((Int.tmod_eq_emod_of_nonneg (by omega)).trans (Swath.sx_z o lk _))) ?_
    refine ipl_take (.pointer (some ⟨O8, 0, none⟩)) rfl (by kernel_rfl) (by kernel_rfl) (by kernel_rfl) (by kernel_rfl) ?_
    refine ipl_put rfl (by kernel_rfl) (by kernel_rfl) (sn_set (O := O8) (j := 0) (v := .int .i64 (((Swath.sx o lk (s.1 + ((i : Nat) : Int) - d) : Nat) : Int) : Int)) (ex_store (p := .pointer (some ⟨O8, 0, none⟩)) (v := .int .i64 (((Swath.sx o lk (s.1 + ((i : Nat) : Int) - d) : Nat) : Int) : Int)) rfl (by kernel_rfl) (by kernel_rfl) (st3 bO8_0.1 bO8_0.2)) bO8_0 ?_)
    intro X14 ho hv0 hk
    replace hX5 := ho.ext hX5 (Nat.le_trans hs7 (Nat.le_of_eq hzO8))
    replace a0 := ho.cell (Nat.ne_of_gt (Nat.lt_of_lt_of_le hbB1 (Nat.le_trans (Nat.le_trans hs2 hs7) (Nat.le_of_eq hzO8)))) a0
    replace a1 := ho.cell (Nat.ne_of_gt (Nat.lt_of_lt_of_le hbB1 (Nat.le_trans (Nat.le_trans hs2 hs7) (Nat.le_of_eq hzO8)))) a1
    replace o0 := ho.cell (Nat.ne_of_gt (Nat.lt_of_lt_of_le hbB2 (Nat.le_trans (Nat.le_trans hs2 hs7) (Nat.le_of_eq hzO8)))) o0
    replace o1 := ho.cell (Nat.ne_of_gt (Nat.lt_of_lt_of_le hbB2 (Nat.le_trans (Nat.le_trans hs2 hs7) (Nat.le_of_eq hzO8)))) o1
    replace o2 := ho.cell (Nat.ne_of_gt (Nat.lt_of_lt_of_le hbB2 (Nat.le_trans (Nat.le_trans hs2 hs7) (Nat.le_of_eq hzO8)))) o2
    replace o3 := ho.cell (Nat.ne_of_gt (Nat.lt_of_lt_of_le hbB2 (Nat.le_trans (Nat.le_trans hs2 hs7) (Nat.le_of_eq hzO8)))) o3
    replace o4 := ho.cell (Nat.ne_of_gt (Nat.lt_of_lt_of_le hbB2 (Nat.le_trans (Nat.le_trans hs2 hs7) (Nat.le_of_eq hzO8)))) o4
    replace o5 := ho.cell (Nat.ne_of_gt (Nat.lt_of_lt_of_le hbB2 (Nat.le_trans (Nat.le_trans hs2 hs7) (Nat.le_of_eq hzO8)))) o5
    replace o6 := ho.cell (Nat.ne_of_gt (Nat.lt_of_lt_of_le hbB2 (Nat.le_trans (Nat.le_trans hs2 hs7) (Nat.le_of_eq hzO8)))) o6
    replace d0 := ho.cell (Nat.ne_of_gt (Nat.lt_of_lt_of_le hbB3 (Nat.le_trans (Nat.le_trans hs2 hs7) (Nat.le_of_eq hzO8)))) d0
    replace l0 := ho.cell (Nat.ne_of_gt (Nat.lt_of_lt_of_le hbB4 (Nat.le_trans (Nat.le_trans hs2 hs7) (Nat.le_of_eq hzO8)))) l0
    replace bO8_1 := hk 1 _ (by omega) bO8_1
    have hs15 : X12.heap.size ≤ X14.heap.size := Nat.le_of_eq ho.size.symm
    clear ho hk bO8_0
    have bO8_0 := hv0; clear hv0
    refine ipl_nil ?_
    refine iqw_then ?_
    refine icw_clean [0, 1, 2, 3, 4, 6, 7] (ws' := [(0, .func (.yield l) #[] #[]), (1, .pointer (some ⟨B1, 0, none⟩)), (2, .pointer (some ⟨B2, 0, none⟩)), (3, .pointer (some ⟨B3, 0, none⟩)), (4, .pointer (some ⟨B4, 0, none⟩)), (6, .int .i64 (s.1 + ((i : Nat) : Int) : Int)), (7, .pointer (some ⟨O8, 0, none⟩))]) (by kernel_rfl) (fun L => ?_)
    refine icw_seq ?_
    refine icw_plain ?_
    refine ipl_take (.func (.yield l) #[] #[]) rfl (by kernel_rfl) (by kernel_rfl) (by kernel_rfl) (by kernel_rfl) ?_
    refine ipl_take (.agg #[.int .i64 (((Swath.sx o lk (s.1 + ((i : Nat) : Int) - d) : Nat) : Int) : Int), .int .i64 (((Orb.cy o ((s.1 + ((i : Nat) : Int)) - d) : Nat) : Int) : Int)]) rfl (by kernel_rfl) (by kernel_rfl) (by kernel_rfl) (ex_load rfl (by kernel_rfl) (ld33 (bO8_0.1) (bO8_1.1))) ?_
    refine ipl_take (.int .i64 (s.1 + ((i : Nat) : Int) : Int)) rfl (by kernel_rfl) (by kernel_rfl) (by kernel_rfl) (by kernel_rfl) ?_
    refine ipl_take (.agg #[.int .i64 (((Swath.sx o lk (s.1 + ((i : Nat) : Int) - d) : Nat) : Int) : Int), .int .i64 (((Orb.cy o ((s.1 + ((i : Nat) : Int)) - d) : Nat) : Int) : Int), .int .i64 (s.1 + ((i : Nat) : Int) : Int)]) rfl (by kernel_rfl) (by kernel_rfl) (by kernel_rfl) (by kernel_rfl) ?_
    refine ipl_yield rfl (by kernel_rfl) (by kernel_rfl) (by kernel_rfl) (sy_yield (args := #[.agg #[.int .i64 (((Swath.sx o lk (s.1 + ((i : Nat) : Int) - d) : Nat) : Int) : Int), .int .i64 (((Orb.cy o ((s.1 + ((i : Nat) : Int)) - d) : Nat) : Int) : Int), .int .i64 (s.1 + ((i : Nat) : Int) : Int)]]) rfl (by kernel_rfl) (by kernel_rfl) (yield_mono (hY i _ _ (by omega) (hJst _ _ _ hJ9 hX5) trivial) ?_))
    rintro e w16 (⟨rfl, hJ17, hk18⟩ | ⟨rfl, hJ17, hk18⟩)
    ·
      replace a0 := hk18.cell (hX B1 (.inl rfl)) a0
      replace a1 := hk18.cell (hX B1 (.inl rfl)) a1
      replace o0 := hk18.cell (hX B2 (.inr (.inl rfl))) o0
      replace o1 := hk18.cell (hX B2 (.inr (.inl rfl))) o1
      replace o2 := hk18.cell (hX B2 (.inr (.inl rfl))) o2
      replace o3 := hk18.cell (hX B2 (.inr (.inl rfl))) o3
      replace o4 := hk18.cell (hX B2 (.inr (.inl rfl))) o4
      replace o5 := hk18.cell (hX B2 (.inr (.inl rfl))) o5
      replace o6 := hk18.cell (hX B2 (.inr (.inl rfl))) o6
      replace d0 := hk18.cell (hX B3 (.inr (.inr (.inl rfl)))) d0
      replace l0 := hk18.cell (hX B4 (.inr (.inr (.inr rfl)))) l0
      replace bO8_1 := hk18.box (fun hx => absurd (hXl _ hx) (Nat.not_lt_of_le (Nat.le_trans hW.size (Nat.le_trans (Nat.le_trans hs2 hs7) (Nat.le_of_eq hzO8))))) bO8_1
      replace bO8_0 := hk18.box (fun hx => absurd (hXl _ hx) (Nat.not_lt_of_le (Nat.le_trans hW.size (Nat.le_trans (Nat.le_trans hs2 hs7) (Nat.le_of_eq hzO8))))) bO8_0
      have hs19 := hk18.size
      have hX20 : Ext w16 w16 := Ext.refl _
      refine ⟨_, rfl, ?_⟩
      refine ipl_take (.bool false) rfl (by kernel_rfl) (by kernel_rfl) (by kernel_rfl) (by kernel_rfl) ?_
      refine ipl_nil ?_
      refine iqw_then ?_
      refine icw_f (by kernel_rfl) ?_
      refine icw_skip ?_
      refine iqw_block ?_
      refine iqw_then ?_
      refine icw_plain ?_
      refine ipl_take (.int .i64 (s.1 + ((i : Nat) : Int) : Int)) rfl (by kernel_rfl) (by kernel_rfl) (by kernel_rfl) (by kernel_rfl) ?_
      refine ipl_take (.int .i64 (s.1 + ((i + 1 : Nat) : Int) : Int)) rfl (by kernel_rfl) (by kernel_rfl) (by kernel_rfl) (ev_int (ev_wrap (a := s.1 + ((i : Nat) : Int) + 1) (by kernel_rfl) (by omega) (by omega)) (by omega)) ?_
      refine ipl_take (.int .i64 (s.1 + ((i + 1 : Nat) : Int) : Int)) rfl (by kernel_rfl) (by kernel_rfl) (by kernel_rfl) (by kernel_rfl) ?_
      refine ipl_nil ?_
      refine iqw_round [0, 1, 2, 3, 4, 6] (ws' := [(0, .func (.yield l) #[] #[]), (1, .pointer (some ⟨B1, 0, none⟩)), (2, .pointer (some ⟨B2, 0, none⟩)), (3, .pointer (some ⟨B3, 0, none⟩)), (4, .pointer (some ⟨B4, 0, none⟩)), (6, .int .i64 (s.1 + ((i + 1 : Nat) : Int) : Int))]) (by kernel_rfl) _ ?_ ⟨(i + 1), rfl, rfl, (Nat.le_trans hs2 (Nat.le_trans hs7 (Nat.le_trans hs10 (Nat.le_trans hs13 (Nat.le_trans hs15 hs19))))), a0, a1, o0, o1, o2, o3, o4, o5, o6, d0, l0, (hJst _ _ _ hJ17 (Ext.refl _)), by omega⟩
      omega
    ·
      replace a0 := hk18.cell (hX B1 (.inl rfl)) a0
      replace a1 := hk18.cell (hX B1 (.inl rfl)) a1
      replace o0 := hk18.cell (hX B2 (.inr (.inl rfl))) o0
      replace o1 := hk18.cell (hX B2 (.inr (.inl rfl))) o1
      replace o2 := hk18.cell (hX B2 (.inr (.inl rfl))) o2
      replace o3 := hk18.cell (hX B2 (.inr (.inl rfl))) o3
      replace o4 := hk18.cell (hX B2 (.inr (.inl rfl))) o4
      replace o5 := hk18.cell (hX B2 (.inr (.inl rfl))) o5
      replace o6 := hk18.cell (hX B2 (.inr (.inl rfl))) o6
      replace d0 := hk18.cell (hX B3 (.inr (.inr (.inl rfl)))) d0
      replace l0 := hk18.cell (hX B4 (.inr (.inr (.inr rfl)))) l0
      replace bO8_1 := hk18.box (fun hx => absurd (hXl _ hx) (Nat.not_lt_of_le (Nat.le_trans hW.size (Nat.le_trans (Nat.le_trans hs2 hs7) (Nat.le_of_eq hzO8))))) bO8_1
      replace bO8_0 := hk18.box (fun hx => absurd (hXl _ hx) (Nat.not_lt_of_le (Nat.le_trans hW.size (Nat.le_trans (Nat.le_trans hs2 hs7) (Nat.le_of_eq hzO8))))) bO8_0
      have hs21 := hk18.size
      have hX22 : Ext w16 w16 := Ext.refl _
      refine ⟨_, rfl, ?_⟩
      refine ipl_take (.bool true) rfl (by kernel_rfl) (by kernel_rfl) (by kernel_rfl) (by kernel_rfl) ?_
      refine ipl_nil ?_
      refine iqw_then ?_
      refine icw_t (by kernel_rfl) ?_
      refine icw_ret ?_
      refine iqw_block_ret ?_
      refine iqw_then_ret ?_
      refine iqw_then_ret ?_
      refine iqw_block_ret ?_
      refine iqw_ret0 [] rfl trivial ?_
      exact ⟨⟨_, rfl⟩, .inr ⟨i, by omega, hJxst _ _ _ hJ17 (Ext.refl _)⟩⟩
  ·
    have hin : i = (s.2 - s.1).toNat := by omega
    refine icw_seq ?_
    refine icw_seq ?_
    refine icw_plain ?_
    refine ipl_take (.int .i64 (s.1 + ((i : Nat) : Int) : Int)) rfl (by kernel_rfl) (by kernel_rfl) (by kernel_rfl) (by kernel_rfl) ?_
    refine ipl_take (.pointer (some ⟨B1, 1, none⟩)) rfl (by kernel_rfl) (by kernel_rfl) (by kernel_rfl) (by kernel_rfl) ?_
    refine ipl_take (.int .i64 (s.2 : Int)) rfl (by kernel_rfl) (by kernel_rfl) (by kernel_rfl) (ex_load rfl (by kernel_rfl) (ld3 (a1))) ?_
    refine ipl_take (.bool false) rfl (by kernel_rfl) (by kernel_rfl) (by kernel_rfl) (ev_ndec (show _ = Result.ok (Next.value (Value.bool (decide ((s.1 + ((i : Nat) : Int) : Int) < (s.2 : Int))))) _ from by kernel_rfl) (by omega)) ?_
    refine ipl_nil ?_
    refine iqw_then ?_
    refine icw_f (by kernel_rfl) ?_
    refine icw_exit ?_
    refine iqw_then_exit ?_
    refine iqw_then_exit ?_
    refine iqw_block_out ?_
    refine iqw_end0 [] rfl trivial ?_
    exact ⟨⟨_, rfl⟩, .inl (hin ▸ hJst _ _ _ hJ9 (Ext.refl _))⟩

end Go.Proofs.YtdjjkhefdalokaaDoor

/- Contracts of package globe: isIn, ValidCell. -/
namespace Go.Proofs.YtdjjkhefdalokaaDoor
open Go.RowKit

theorem isIn_c (n lo hi : Int) (w : World) : Calls Tryd.prog 52 #[.int .i64 n, .int .i64 lo, .int .i64 hi] w fun e w' => e = .returned (.bool (Globe.inB n lo hi)) ∧ w = w' := by
  go_enter Tryd.func52, Tryd.ntmps52
  go_wp2
  all_goals (go_ret; refine ⟨ret_bool ?_, rfl⟩; first | (rw [Globe.inB_f.2 (by omega)]; done) | (rw [Bool.eq_iff_iff, Globe.inB_t]; first | (simp; omega) | (simp; done)))

theorem ValidCell_c (x y : Int) (w : World) :
    Calls Tryd.prog 33 #[.agg #[.int .i64 x, .int .i64 y]] w fun e w' => e = .returned (.bool (Globe.vcB x y)) ∧ Ext w w' := by
  rw [Globe.vcB_in]
  go_enter Tryd.func33, Tryd.ntmps33
  go_wp2_with (go_at_call 52; refine (isIn_c _ _ _ _).mono ?_; rintro e w' ⟨rfl, rfl⟩)
  all_goals (go_ret; refine ⟨ret_bool ?_, by (repeat' (first | (with_reducible assumption) | (with_reducible exact Ext.refl _) | (with_reducible refine Ext.alloc ?_ _) | (with_reducible refine Ext.drew ?_) | (with_reducible refine Ext.drewN ?_ _) | (with_reducible refine Ext.setCell ?_ ?_ _) | (with_reducible refine Ext.trans ?_ (by assumption)) | go_size))⟩; first | rfl | (simp [*]; done))

end Go.Proofs.YtdjjkhefdalokaaDoor

/- Contracts of package globe: Valid. -/
namespace Go.Proofs.YtdjjkhefdalokaaDoor
open Go.RowKit

theorem Valid1_c (r : Int) (w : World) : Calls Tryd.prog 51 #[.int .i64 r] w fun e w' => e = .returned (.bool (!Globe.rowOk r)) ∧ w = w' := by
  rw [show Globe.rowOk r = Globe.inB r 0 281474976710655 from rfl]
  go_enter Tryd.func51, Tryd.ntmps51
  go_wp2_with (go_at_call 52; refine (isIn_c _ _ _ _).mono ?_; rintro e w' ⟨rfl, rfl⟩)
  go_ret
  exact ⟨rfl, rfl⟩

set_option maxHeartbeats 400000 in
theorem IndexFunc_c (a : Option Addr) (l : List Int) (c : Nat) (w : World) (h : IntsAt w a l) (hl : l.length ≤ 140737488355328) :
    Calls Tryd.prog 69 #[.slice a l.length c, .func (.func 51) #[] #[]] w fun e w' => e = .returned (.int .i64 (Globe.badAt l)) ∧ w = w' := by
  rcases h with rfl | ⟨b, off, rfl, hc⟩
  · go_enter Tryd.func69, Tryd.ntmps69
    go_wp2_with fail
    refine wp_loop_rounds 1 ?_
    rw [rounds_succ]
    go_wp2_with fail
    go_ret
    exact ⟨rfl, rfl⟩
  · go_enter Tryd.func69, Tryd.ntmps69
    go_wp2_with fail
    go_loop [5, 8] (fun _ i => ∃ k : Nat, k ≤ l.length ∧ i = .int .i64 k ∧ Hid (∀ j, j < k → Globe.rowOk (Globe.nth l j) = true)) (fun _ i => l.length - (intOf i).toNat)
    case atStart => exact ⟨0, by omega, rfl, fun j hj => by omega⟩
    case round =>
      obtain ⟨k, hk, rfl, Hp⟩ := hrel
      by_cases hlt : k < l.length
      · have h0 : (0 : Int) ≤ (k : Int) := by omega
        cases hq : Globe.rowOk (Globe.nth l k)
        all_goals
          go_wp2_with (go_at_call 51; refine (Valid1_c _ _).mono ?_; rintro e w' ⟨rfl, rfl⟩)
        · go_ret
          exact ⟨ret_int (Globe.badAt_first hlt Hp.out hq).symm, rfl⟩
        · go_round
          case rel => exact ⟨k + 1, by omega, by go_num, fun j hj => by
            rcases Nat.lt_or_ge j k with h | h
            · exact Hp.out j h
            · rw [show j = k by omega]; exact hq⟩
          case measure => simp [intOf]; omega
      · obtain rfl : k = l.length := by omega
        go_wp2_with fail
        go_ret
        exact ⟨ret_int (Globe.badAt_all (List.all_eq_true.2 fun r hr => by
          obtain ⟨j, hj, rfl⟩ := List.getElem_of_mem hr
          have := Hp.out j hj
          rwa [Globe.nth_lt hj] at this)).symm, rfl⟩

theorem ContainsFunc_c (a : Option Addr) (l : List Int) (c : Nat) (w : World) (h : IntsAt w a l) (hl : l.length ≤ 140737488355328) :
    Calls Tryd.prog 50 #[.slice a l.length c, .func (.func 51) #[] #[]] w fun e w' => e = .returned (.bool (!l.all Globe.rowOk)) ∧ w = w' := by
  cases hq : l.all Globe.rowOk
  · have h1 := Globe.badAt_no hq
    go_enter Tryd.func50, Tryd.ntmps50
    go_wp2_with (go_at_call 69; refine (IndexFunc_c _ _ _ _ h hl).mono ?_; rintro e w' ⟨rfl, rfl⟩)
    go_ret
    exact ⟨rfl, rfl⟩
  · have h1 := Globe.badAt_all hq
    go_enter Tryd.func50, Tryd.ntmps50
    go_wp2_with (go_at_call 69; refine (IndexFunc_c _ _ _ _ h hl).mono ?_; rintro e w' ⟨rfl, rfl⟩)
    go_ret
    exact ⟨rfl, rfl⟩

theorem Valid_c (a : Option Addr) (l : List Int) (c : Nat) (w : World) (h : IntsAt w a l) (hl : l.length ≤ 140737488355328) :
    Calls Tryd.prog 31 #[.agg #[.slice a l.length c]] w fun e w' => e = .returned (.bool (Globe.validL l)) ∧ Ext w w' := by
  have H := Lib.hid h; clear h
  cases h24 : ((l.length : Int) == 24)
  · have hv : Globe.validL l = false := by simp [Globe.validL]; intro h; simp [h] at h24
    go_enter Tryd.func31, Tryd.ntmps31
    go_wp2_with fail
    go_ret
    exact ⟨ret_bool (by rw [hv]), by (repeat' (first | (with_reducible assumption) | (with_reducible exact Ext.refl _) | (with_reducible refine Ext.alloc ?_ _) | (with_reducible refine Ext.drew ?_) | (with_reducible refine Ext.drewN ?_ _) | (with_reducible refine Ext.setCell ?_ ?_ _) | (with_reducible refine Ext.trans ?_ (by assumption)) | go_size))⟩
  · have hv : Globe.validL l = l.all Globe.rowOk := by
      have e : l.length = 24 := by simp at h24; omega
      rw [Globe.validL, e]; simp
    have Hv := Lib.hid hv; clear hv
    go_enter Tryd.func31, Tryd.ntmps31
    go_wp2_with (go_at_call 50; refine (ContainsFunc_c _ _ _ _ (H.out.ext (by (repeat' (first | (with_reducible assumption) | (with_reducible exact Ext.refl _) | (with_reducible refine Ext.alloc ?_ _) | (with_reducible refine Ext.drew ?_) | (with_reducible refine Ext.drewN ?_ _) | (with_reducible refine Ext.setCell ?_ ?_ _) | (with_reducible refine Ext.trans ?_ (by assumption)) | go_size)))) hl).mono ?_; rintro e w' ⟨rfl, rfl⟩)
    go_ret
    exact ⟨ret_bool (by rw [Hv.out]), by (repeat' (first | (with_reducible assumption) | (with_reducible exact Ext.refl _) | (with_reducible refine Ext.alloc ?_ _) | (with_reducible refine Ext.drew ?_) | (with_reducible refine Ext.drewN ?_ _) | (with_reducible refine Ext.setCell ?_ ?_ _) | (with_reducible refine Ext.trans ?_ (by assumption)) | go_size))⟩

end Go.Proofs.YtdjjkhefdalokaaDoor

/- Contracts of package globe: Empty, turned, and what combines two areas row by row. -/
namespace Go.Proofs.YtdjjkhefdalokaaDoor
open Go.RowKit

theorem Empty_c (w : World) : Calls Tryd.prog 48 #[] w (RetA w Globe.zeroL) := by
  have hmk := make24
  go_enter Tryd.func48, Tryd.ntmps48
  go_wp2
  refine bodyPost_ret (v := .agg #[.slice (some ⟨w.heap.size + 1, 0, none⟩) 24 24]) (by simp [results, Tryd.results48, go_sem]) rfl ⟨w.heap.size + 1, rfl, by omega, ?_, by (repeat' (first | (with_reducible assumption) | (with_reducible exact Ext.refl _) | (with_reducible refine Ext.alloc ?_ _) | (with_reducible refine Ext.drew ?_) | (with_reducible refine Ext.drewN ?_ _) | (with_reducible refine Ext.setCell ?_ ?_ _) | (with_reducible refine Ext.trans ?_ (by assumption)) | go_size))⟩
  have := RowsAt.new (w.alloc (.cells #[.slice (some ⟨w.heap.size + 1, 0, none⟩) 24 24] 39)) Globe.zeroL 3 rfl
  rwa [World.size_alloc] at this

theorem less_i64 (a b : Nat) (ha : a < 4611686018427387904) (_hb : b < 4611686018427387904) : bits .andNot .i64 (a : Int) (b : Int) = ((Globe.lessN a b : Nat) : Int) := by
  show IntKind.i64.wrap ((BitVec.ofInt 64 (a : Int) &&& ~~~BitVec.ofInt 64 (b : Int)).toNat : Int) = _
  have e : (BitVec.ofInt 64 (a : Int) &&& ~~~BitVec.ofInt 64 (b : Int)).toNat = Globe.lessN a b := by
    refine Nat.eq_of_testBit_eq fun x => ?_
    rw [Globe.lessN_bit, BitVec.testBit_toNat, BitVec.getLsbD_and, BitVec.getLsbD_not, BitVec.ofInt_natCast, BitVec.ofInt_natCast, BitVec.getLsbD_ofNat, BitVec.getLsbD_ofNat]
    by_cases h : x < 64
    · simp [h]
    · rw [Nat.testBit_lt_two_pow (x := a) (i := x) (Nat.lt_of_lt_of_le (show a < 2 ^ 64 by omega) (Nat.pow_le_pow_right (by decide) (by omega)))]
      simp [h]
  have h2 : Globe.lessN a b < 2 ^ 62 := Nat.xor_lt_two_pow ha (Nat.lt_of_le_of_lt Nat.and_le_left ha)
  rw [e, IntKind.wrap_i64]
  omega

/-- The five functions that combine two rows. -/
theorem Less1_c (p q : Nat) (w : World) (hp : p < 281474976710656) (hq : q < 281474976710656) :
    Calls Tryd.prog 80 #[.int .i64 (p : Int), .int .i64 (q : Int)] w fun e w' => e = .returned (.int .i64 ((Globe.lessN p q : Nat) : Int)) ∧ w = w' := by
  go_enter Tryd.func80, Tryd.ntmps80
  go_wp2
  go_ret
  exact ⟨ret_int (less_i64 _ _ (by omega) (by omega)), rfl⟩
end Go.Proofs.YtdjjkhefdalokaaDoor

/- Contract of package swath: area. -/
namespace Go.Proofs.YtdjjkhefdalokaaDoor
open Go.RowKit

theorem show_next {w : World} {B i : Nat} {o : Orb} {lk a d : Int} (h : RowsAt w B ((Swath.showL o lk (a - d) i).set (Orb.cy o (a + ((i : Nat) : Int) - d)) ((Globe.rowN (Swath.showL o lk (a - d) i) (Orb.cy o (a + ((i : Nat) : Int) - d)) ||| 2 ^ Swath.sx o lk (a + ((i : Nat) : Int) - d) : Nat) : Int))) : RowsAt w B (Swath.showL o lk (a - d) (i + 1)) := by
  have e : a - d + ((i : Nat) : Int) = a + ((i : Nat) : Int) - d := by omega
  show RowsAt w B (Globe.putL _ (Swath.sx o lk (a - d + ((i : Nat) : Int))) (Orb.cy o (a - d + ((i : Nat) : Int))))
  rw [e]; exact h
set_option maxRecDepth 1000000 in
set_option maxHeartbeats 4000000 in
theorem area_c (o : Orb) (s : Int × Int) (lk d : Int) (w : World) (hv : Swath.shB o s lk = true) (hd9 : Globe.inB d (-o.sl) o.sl = true) : Calls Tryd.prog 26 #[.agg #[.int .i64 o.p, .int .i64 o.f, .int .i64 o.lo, .int .i64 o.hi, .int .i64 o.nd, .int .i64 o.tn, .int .i64 o.sl], .agg #[.int .i64 s.1, .int .i64 s.2], .int .i64 lk, .int .i64 d] w (RetA w (Swath.showL o lk (s.1 - d) (s.2 - s.1).toNat)) := by
  obtain ⟨hok, ⟨sp0, sp1, sp2, sp3⟩, hl0, hl1⟩ := Swath.shB_t.1 hv
  have hd := Globe.inB_t.1 hd9
  refine icalls_cw 32 [(3, .int .i64 (d : Int)), (2, .int .i64 (lk : Int)), (1, .agg #[.int .i64 (s.1 : Int), .int .i64 (s.2 : Int)]), (0, .agg #[.int .i64 (o.p : Int), .int .i64 (o.f : Int), .int .i64 (o.lo : Int), .int .i64 (o.hi : Int), .int .i64 (o.nd : Int), .int .i64 (o.tn : Int), .int .i64 (o.sl : Int)])] Tryd.func26 rfl Tryd.ntmps26 (by kernel_rfl) (by kernel_rfl) (fun L mm => ?_)
  have hE : Ext w w := Ext.refl w
  refine icw_seq ?_
  refine icw_plain ?_
  refine ipl_step rfl (by kernel_rfl) (by kernel_rfl) (by kernel_rfl) (sn_new (us := #[.int .i64 (o.p : Int), .int .i64 (o.f : Int), .int .i64 (o.lo : Int), .int .i64 (o.hi : Int), .int .i64 (o.nd : Int), .int .i64 (o.tn : Int), .int .i64 (o.sl : Int)]) (t := 26) (by kernel_rfl) ?_)
  intro O1 X2 hO hOs hb hbx
  have hzO1 := hO; have hyO1 := hOs; clear hO hOs
  have bO1_0 : BoxAt X2 O1 0 (.int .i64 (o.p : Int)) := hbx 0 _ rfl
  have bO1_1 : BoxAt X2 O1 1 (.int .i64 (o.f : Int)) := hbx 1 _ rfl
  have bO1_2 : BoxAt X2 O1 2 (.int .i64 (o.lo : Int)) := hbx 2 _ rfl
  have bO1_3 : BoxAt X2 O1 3 (.int .i64 (o.hi : Int)) := hbx 3 _ rfl
  have bO1_4 : BoxAt X2 O1 4 (.int .i64 (o.nd : Int)) := hbx 4 _ rfl
  have bO1_5 : BoxAt X2 O1 5 (.int .i64 (o.tn : Int)) := hbx 5 _ rfl
  have bO1_6 : BoxAt X2 O1 6 (.int .i64 (o.sl : Int)) := hbx 6 _ rfl
  clear hbx
  replace hE := hE.trans hb
  have hs3 := hb.size
  clear hb
  have lt4 := bO1_0.lt
  refine ipl_step rfl (by kernel_rfl) (by kernel_rfl) (by kernel_rfl) (sn_new (us := #[.int .i64 (s.1 : Int), .int .i64 (s.2 : Int)]) (t := 29) (by kernel_rfl) ?_)
  intro O5 X6 hO hOs hb hbx
  have hzO5 := hO; have hyO5 := hOs; clear hO hOs
  have bO5_0 : BoxAt X6 O5 0 (.int .i64 (s.1 : Int)) := hbx 0 _ rfl
  have bO5_1 : BoxAt X6 O5 1 (.int .i64 (s.2 : Int)) := hbx 1 _ rfl
  clear hbx
  replace hE := hE.trans hb
  replace bO1_0 := BoxAt.ext hb bO1_0
  replace bO1_1 := BoxAt.ext hb bO1_1
  replace bO1_2 := BoxAt.ext hb bO1_2
  replace bO1_3 := BoxAt.ext hb bO1_3
  replace bO1_4 := BoxAt.ext hb bO1_4
  replace bO1_5 := BoxAt.ext hb bO1_5
  replace bO1_6 := BoxAt.ext hb bO1_6
  have hs7 := hb.size
  clear hb
  have lt8 := bO5_0.lt
  refine ipl_step rfl (by kernel_rfl) (by kernel_rfl) (by kernel_rfl) (sn_new (us := #[.slice none 0 0]) (t := 39) (by kernel_rfl) ?_)
  intro O9 X10 hO hOs hb hbx
  have hzO9 := hO; have hyO9 := hOs; clear hO hOs
  have bO9_0 : BoxAt X10 O9 0 (.slice none 0 0) := hbx 0 _ rfl
  clear hbx
  replace hE := hE.trans hb
  replace bO1_0 := BoxAt.ext hb bO1_0
  replace bO1_1 := BoxAt.ext hb bO1_1
  replace bO1_2 := BoxAt.ext hb bO1_2
  replace bO1_3 := BoxAt.ext hb bO1_3
  replace bO1_4 := BoxAt.ext hb bO1_4
  replace bO1_5 := BoxAt.ext hb bO1_5
  replace bO1_6 := BoxAt.ext hb bO1_6
  replace bO5_0 := BoxAt.ext hb bO5_0
  replace bO5_1 := BoxAt.ext hb bO5_1
  have hs11 := hb.size
  clear hb
  have lt12 := bO9_0.lt
  refine ipl_nil ?_
  refine iqw_then ?_
  refine icw_seq ?_
  refine icw_plain ?_
  refine ipl_step rfl (by kernel_rfl) (by kernel_rfl) (by kernel_rfl) (sn_call (f := 48) (args := #[]) (by kernel_rfl) ((Empty_c _).mono ?_))
  rintro e w16 ⟨B13, rfl, hn14, hr15, hb⟩
  replace hE := hE.trans hb
  replace bO1_0 := BoxAt.ext hb bO1_0
  replace bO1_1 := BoxAt.ext hb bO1_1
  replace bO1_2 := BoxAt.ext hb bO1_2
  replace bO1_3 := BoxAt.ext hb bO1_3
  replace bO1_4 := BoxAt.ext hb bO1_4
  replace bO1_5 := BoxAt.ext hb bO1_5
  replace bO1_6 := BoxAt.ext hb bO1_6
  replace bO5_0 := BoxAt.ext hb bO5_0
  replace bO5_1 := BoxAt.ext hb bO5_1
  replace bO9_0 := BoxAt.ext hb bO9_0
  have hs17 := hb.size
  clear hb
  have lt18 := hr15.lt
  refine ⟨_, rfl, ?_⟩
  refine ipl_step rfl (by kernel_rfl) (by kernel_rfl) (by kernel_rfl) (sn_new (us := #[.slice none 0 0]) (t := 39) (by kernel_rfl) ?_)
  intro O19 X20 hO hOs hb hbx
  have hzO19 := hO; have hyO19 := hOs; clear hO hOs
  have bO19_0 : BoxAt X20 O19 0 (.slice none 0 0) := hbx 0 _ rfl
  clear hbx
  replace hE := hE.trans hb
  replace bO1_0 := BoxAt.ext hb bO1_0
  replace bO1_1 := BoxAt.ext hb bO1_1
  replace bO1_2 := BoxAt.ext hb bO1_2
  replace bO1_3 := BoxAt.ext hb bO1_3
  replace bO1_4 := BoxAt.ext hb bO1_4
  replace bO1_5 := BoxAt.ext hb bO1_5
  replace bO1_6 := BoxAt.ext hb bO1_6
  replace bO5_0 := BoxAt.ext hb bO5_0
  replace bO5_1 := BoxAt.ext hb bO5_1
  replace bO9_0 := BoxAt.ext hb bO9_0
  replace hr15 := hr15.ext hb
  have hs21 := hb.size
  clear hb
  have lt22 := bO19_0.lt
  refine ipl_put rfl (by kernel_rfl) (by kernel_rfl) (sn_set (O := O19) (j := 0) (v := .slice (some ⟨B13, 0, none⟩) 24 24) (ex_store (p := .pointer (some ⟨O19, 0, none⟩)) (v := .agg #[.slice (some ⟨B13, 0, none⟩) 24 24]) rfl (by kernel_rfl) (by kernel_rfl) (st39 bO19_0.1 bO19_0.2)) bO19_0 ?_)
  intro X23 ho hv0 hk
  replace hE := ho.ext hE (Nat.le_trans (Nat.le_trans hs3 (Nat.le_trans hs7 (Nat.le_trans hs11 hs17))) (Nat.le_of_eq hzO19))
  replace bO1_0 := ho.box (Nat.ne_of_gt (Nat.lt_of_lt_of_le lt4 (Nat.le_trans (Nat.le_trans hs7 (Nat.le_trans hs11 hs17)) (Nat.le_of_eq hzO19)))) bO1_0
  replace bO1_1 := ho.box (Nat.ne_of_gt (Nat.lt_of_lt_of_le lt4 (Nat.le_trans (Nat.le_trans hs7 (Nat.le_trans hs11 hs17)) (Nat.le_of_eq hzO19)))) bO1_1
  replace bO1_2 := ho.box (Nat.ne_of_gt (Nat.lt_of_lt_of_le lt4 (Nat.le_trans (Nat.le_trans hs7 (Nat.le_trans hs11 hs17)) (Nat.le_of_eq hzO19)))) bO1_2
  replace bO1_3 := ho.box (Nat.ne_of_gt (Nat.lt_of_lt_of_le lt4 (Nat.le_trans (Nat.le_trans hs7 (Nat.le_trans hs11 hs17)) (Nat.le_of_eq hzO19)))) bO1_3
  replace bO1_4 := ho.box (Nat.ne_of_gt (Nat.lt_of_lt_of_le lt4 (Nat.le_trans (Nat.le_trans hs7 (Nat.le_trans hs11 hs17)) (Nat.le_of_eq hzO19)))) bO1_4
  replace bO1_5 := ho.box (Nat.ne_of_gt (Nat.lt_of_lt_of_le lt4 (Nat.le_trans (Nat.le_trans hs7 (Nat.le_trans hs11 hs17)) (Nat.le_of_eq hzO19)))) bO1_5
  replace bO1_6 := ho.box (Nat.ne_of_gt (Nat.lt_of_lt_of_le lt4 (Nat.le_trans (Nat.le_trans hs7 (Nat.le_trans hs11 hs17)) (Nat.le_of_eq hzO19)))) bO1_6
  replace bO5_0 := ho.box (Nat.ne_of_gt (Nat.lt_of_lt_of_le lt8 (Nat.le_trans (Nat.le_trans hs11 hs17) (Nat.le_of_eq hzO19)))) bO5_0
  replace bO5_1 := ho.box (Nat.ne_of_gt (Nat.lt_of_lt_of_le lt8 (Nat.le_trans (Nat.le_trans hs11 hs17) (Nat.le_of_eq hzO19)))) bO5_1
  replace bO9_0 := ho.box (Nat.ne_of_gt (Nat.lt_of_lt_of_le lt12 (Nat.le_trans hs17 (Nat.le_of_eq hzO19)))) bO9_0
  replace hr15 := ho.rows (Nat.ne_of_gt (Nat.lt_of_lt_of_le lt18 (Nat.le_of_eq hzO19))) hr15
  have hs24 : X20.heap.size ≤ X23.heap.size := Nat.le_of_eq ho.size.symm
  clear ho hk bO19_0
  have bO19_0 := hv0; clear hv0
  refine ipl_nil ?_
  refine iqw_then ?_
  refine icw_seq ?_
  refine icw_seq ?_
  refine icw_plain ?_
  refine ipl_take (.agg #[.int .i64 (o.p : Int), .int .i64 (o.f : Int), .int .i64 (o.lo : Int), .int .i64 (o.hi : Int), .int .i64 (o.nd : Int), .int .i64 (o.tn : Int), .int .i64 (o.sl : Int)]) rfl (by kernel_rfl) (by kernel_rfl) (by kernel_rfl) (ex_load rfl (by kernel_rfl) (ld26 (bO1_0.1) (bO1_1.1) (bO1_2.1) (bO1_3.1) (bO1_4.1) (bO1_5.1) (bO1_6.1))) ?_
  refine ipl_take (.agg #[.int .i64 (s.1 : Int), .int .i64 (s.2 : Int)]) rfl (by kernel_rfl) (by kernel_rfl) (by kernel_rfl) (ex_load rfl (by kernel_rfl) (ld29 (bO5_0.1) (bO5_1.1))) ?_
  refine ipl_take (.int .i64 (lk : Int)) rfl (by kernel_rfl) (by kernel_rfl) (by kernel_rfl) (by kernel_rfl) ?_
  refine ipl_take (.int .i64 (d : Int)) rfl (by kernel_rfl) (by kernel_rfl) (by kernel_rfl) (by kernel_rfl) ?_
  refine ipl_step rfl (by kernel_rfl) (by kernel_rfl) (by kernel_rfl) (sn_call (f := 39) (args := #[.agg #[.int .i64 (o.p : Int), .int .i64 (o.f : Int), .int .i64 (o.lo : Int), .int .i64 (o.hi : Int), .int .i64 (o.nd : Int), .int .i64 (o.tn : Int), .int .i64 (o.sl : Int)], .agg #[.int .i64 (s.1 : Int), .int .i64 (s.2 : Int)], .int .i64 (lk : Int), .int .i64 (d : Int)]) (by kernel_rfl) ((shown_c o s lk d _).mono ?_))
  rintro e w34 ⟨B25, B26, B27, B28, rfl, ⟨hn29, hn30, hn31, hn32⟩, hS33, hb⟩
  replace hE := hE.trans hb
  replace bO1_0 := BoxAt.ext hb bO1_0
  replace bO1_1 := BoxAt.ext hb bO1_1
  replace bO1_2 := BoxAt.ext hb bO1_2
  replace bO1_3 := BoxAt.ext hb bO1_3
  replace bO1_4 := BoxAt.ext hb bO1_4
  replace bO1_5 := BoxAt.ext hb bO1_5
  replace bO1_6 := BoxAt.ext hb bO1_6
  replace bO5_0 := BoxAt.ext hb bO5_0
  replace bO5_1 := BoxAt.ext hb bO5_1
  replace bO9_0 := BoxAt.ext hb bO9_0
  replace hr15 := hr15.ext hb
  replace bO19_0 := BoxAt.ext hb bO19_0
  have hs35 := hb.size
  clear hb
  have hX36 : Ext w34 w34 := Ext.refl _
  refine ⟨_, rfl, ?_⟩
  refine ipl_nil ?_
  refine iqw_then ?_
  refine icw_block ?_
  refine icw_range (ps := [17]) (by kernel_rfl) (enters_of Tryd.func61 (by kernel_rfl) rfl) (shown_seq hv hd9 (fun b hb hx => (fun h => h.elim (fun e => (Nat.ne_of_gt (Nat.lt_of_lt_of_le lt18 (Nat.le_trans (Nat.le_trans hs21 hs24) hn29))) (e.symm.trans hx)) (fun h => h.elim (fun e => (Nat.ne_of_gt (Nat.lt_of_lt_of_le lt18 (Nat.le_trans (Nat.le_trans hs21 hs24) hn30))) (e.symm.trans hx)) (fun h => h.elim (fun e => (Nat.ne_of_gt (Nat.lt_of_lt_of_le lt18 (Nat.le_trans (Nat.le_trans hs21 hs24) hn31))) (e.symm.trans hx)) (fun e => (Nat.ne_of_gt (Nat.lt_of_lt_of_le lt18 (Nat.le_trans (Nat.le_trans hs21 hs24) hn32))) (e.symm.trans hx))))) hb) (fun k hk => hk ▸ (Nat.lt_of_lt_of_le lt18 (Nat.le_trans hs21 (Nat.le_trans hs24 hs35)))) hS33) (Ext.refl _) (fun _ => rfl) (by kernel_rfl) (fun i W => w34.heap.size ≤ W.heap.size ∧ Ext w W ∧ BoxAt W O1 0 (.int .i64 (o.p : Int)) ∧ BoxAt W O1 1 (.int .i64 (o.f : Int)) ∧ BoxAt W O1 2 (.int .i64 (o.lo : Int)) ∧ BoxAt W O1 3 (.int .i64 (o.hi : Int)) ∧ BoxAt W O1 4 (.int .i64 (o.nd : Int)) ∧ BoxAt W O1 5 (.int .i64 (o.tn : Int)) ∧ BoxAt W O1 6 (.int .i64 (o.sl : Int)) ∧ BoxAt W O5 0 (.int .i64 (s.1 : Int)) ∧ BoxAt W O5 1 (.int .i64 (s.2 : Int)) ∧ BoxAt W O9 0 (.slice none 0 0) ∧ BoxAt W O19 0 (.slice (some ⟨B13, 0, none⟩) 24 24) ∧ RowsAt W B13 (Swath.showL o lk (s.1 - d) i)) (fun _ _ _ => False) (fun i A B h hm => by obtain ⟨hsz, hE, bO1_0, bO1_1, bO1_2, bO1_3, bO1_4, bO1_5, bO1_6, bO5_0, bO5_1, bO9_0, bO19_0, hr9⟩ := h; exact ⟨Nat.le_trans hsz hm.size, hm.ext hE (Nat.le_trans hs3 (Nat.le_trans hs7 (Nat.le_trans hs11 (Nat.le_trans hs17 (Nat.le_trans hs21 (Nat.le_trans hs24 hs35)))))), hm.box bO1_0, hm.box bO1_1, hm.box bO1_2, hm.box bO1_3, hm.box bO1_4, hm.box bO1_5, hm.box bO1_6, hm.box bO5_0, hm.box bO5_1, hm.box bO9_0, hm.box bO19_0, hm.rows hr9⟩) (fun _ _ _ _ h _ => h.elim) ⟨Nat.le_refl _, hE, bO1_0, bO1_1, bO1_2, bO1_3, bO1_4, bO1_5, bO1_6, bO5_0, bO5_1, bO9_0, bO19_0, hr15⟩ ?_ ?_ ?_
  ·
    clear bO1_0 bO1_1 bO1_2 bO1_3 bO1_4 bO1_5 bO1_6 bO5_0 bO5_1 bO9_0 hr15 bO19_0 hE
    intro l39 k40 i w37 hii h _
    obtain ⟨hs38, hE, bO1_0, bO1_1, bO1_2, bO1_3, bO1_4, bO1_5, bO1_6, bO5_0, bO5_1, bO9_0, bO19_0, hr9⟩ := h
    refine icw_clean [9, 17] (ws' := [(9, .pointer (some ⟨O19, 0, none⟩)), (17, .agg #[.int .i64 (((Swath.sx o lk (s.1 + ((i : Nat) : Int) - d) : Nat) : Int) : Int), .int .i64 (((Orb.cy o (s.1 + ((i : Nat) : Int) - d) : Nat) : Int) : Int), .int .i64 (s.1 + ((i : Nat) : Int) : Int)])]) (by kernel_rfl) (fun L => ?_)
    have hrk41 : RK w34.heap.size (fun k => k = B13) w37 w37 := RK.refl _ _ _
    refine icw_plain ?_
    refine ipl_step rfl (by kernel_rfl) (by kernel_rfl) (by kernel_rfl) (sn_new (us := #[.int .i64 0, .int .i64 0, .int .i64 0]) (t := 86) (by kernel_rfl) ?_)
    intro O42 X43 hO hOs hb hbx
    have hzO42 := hO; have hyO42 := hOs; clear hO hOs
    have bO42_0 : BoxAt X43 O42 0 (.int .i64 0) := hbx 0 _ rfl
    have bO42_1 : BoxAt X43 O42 1 (.int .i64 0) := hbx 1 _ rfl
    have bO42_2 : BoxAt X43 O42 2 (.int .i64 0) := hbx 2 _ rfl
    clear hbx
    replace hE := hE.trans hb
    replace bO1_0 := BoxAt.ext hb bO1_0
    replace bO1_1 := BoxAt.ext hb bO1_1
    replace bO1_2 := BoxAt.ext hb bO1_2
    replace bO1_3 := BoxAt.ext hb bO1_3
    replace bO1_4 := BoxAt.ext hb bO1_4
    replace bO1_5 := BoxAt.ext hb bO1_5
    replace bO1_6 := BoxAt.ext hb bO1_6
    replace bO5_0 := BoxAt.ext hb bO5_0
    replace bO5_1 := BoxAt.ext hb bO5_1
    replace bO9_0 := BoxAt.ext hb bO9_0
    replace bO19_0 := BoxAt.ext hb bO19_0
    replace hr9 := hr9.ext hb
    replace hrk41 := hrk41.ext hb
    have hs44 := hb.size
    clear hb
    have lt45 := bO42_0.lt
    refine ipl_put rfl (by kernel_rfl) (by kernel_rfl) (sn_setK3 (O := O42) (j := 0) (v0 := .int .i64 (((Swath.sx o lk (s.1 + ((i : Nat) : Int) - d) : Nat) : Int) : Int)) (v1 := .int .i64 (((Orb.cy o (s.1 + ((i : Nat) : Int) - d) : Nat) : Int) : Int)) (v2 := .int .i64 (s.1 + ((i : Nat) : Int) : Int)) (ex_store (p := .pointer (some ⟨O42, 0, none⟩)) (v := .agg #[.int .i64 (((Swath.sx o lk (s.1 + ((i : Nat) : Int) - d) : Nat) : Int) : Int), .int .i64 (((Orb.cy o (s.1 + ((i : Nat) : Int) - d) : Nat) : Int) : Int), .int .i64 (s.1 + ((i : Nat) : Int) : Int)]) rfl (by kernel_rfl) (by kernel_rfl) (st86 bO42_0.1 bO42_0.2 bO42_1.1 bO42_1.2 bO42_2.1 bO42_2.2)) bO42_0 bO42_1 bO42_2 ?_)
    intro X46 ho hv0 hv1 hv2 hk
    replace hE := ho.ext hE (Nat.le_trans (Nat.le_trans hs3 (Nat.le_trans hs7 (Nat.le_trans hs11 (Nat.le_trans hs17 (Nat.le_trans hs21 (Nat.le_trans hs24 (Nat.le_trans hs35 hs38))))))) (Nat.le_of_eq hzO42))
    replace bO1_0 := ho.box (Nat.ne_of_gt (Nat.lt_of_lt_of_le lt4 (Nat.le_trans (Nat.le_trans hs7 (Nat.le_trans hs11 (Nat.le_trans hs17 (Nat.le_trans hs21 (Nat.le_trans hs24 (Nat.le_trans hs35 hs38)))))) (Nat.le_of_eq hzO42)))) bO1_0
    replace bO1_1 := ho.box (Nat.ne_of_gt (Nat.lt_of_lt_of_le lt4 (Nat.le_trans (Nat.le_trans hs7 (Nat.le_trans hs11 (Nat.le_trans hs17 (Nat.le_trans hs21 (Nat.le_trans hs24 (Nat.le_trans hs35 hs38)))))) (Nat.le_of_eq hzO42)))) bO1_1
    replace bO1_2 := ho.box (Nat.ne_of_gt (Nat.lt_of_lt_of_le lt4 (Nat.le_trans (Nat.le_trans hs7 (Nat.le_trans hs11 (Nat.le_trans hs17 (Nat.le_trans hs21 (Nat.le_trans hs24 (Nat.le_trans hs35 hs38)))))) (Nat.le_of_eq hzO42)))) bO1_2
    replace bO1_3 := ho.box (Nat.ne_of_gt (Nat.lt_of_lt_of_le lt4 (Nat.le_trans (Nat.le_trans hs7 (Nat.le_trans hs11 (Nat.le_trans hs17 (Nat.le_trans hs21 (Nat.le_trans hs24 (Nat.le_trans hs35 hs38)))))) (Nat.le_of_eq hzO42)))) bO1_3
    replace bO1_4 := ho.box (Nat.ne_of_gt (Nat.lt_of_lt_of_le lt4 (Nat.le_trans (Nat.le_trans hs7 (Nat.le_trans hs11 (Nat.le_trans hs17 (Nat.le_trans hs21 (Nat.le_trans hs24 (Nat.le_trans hs35 hs38)))))) (Nat.le_of_eq hzO42)))) bO1_4
    replace bO1_5 := ho.box (Nat.ne_of_gt (Nat.lt_of_lt_of_le lt4 (Nat.le_trans (Nat.le_trans hs7 (Nat.le_trans hs11 (Nat.le_trans hs17 (Nat.le_trans hs21 (Nat.le_trans hs24 (Nat.le_trans hs35 hs38)))))) (Nat.le_of_eq hzO42)))) bO1_5
    replace bO1_6 := ho.box (Nat.ne_of_gt (Nat.lt_of_lt_of_le lt4 (Nat.le_trans (Nat.le_trans hs7 (Nat.le_trans hs11 (Nat.le_trans hs17 (Nat.le_trans hs21 (Nat.le_trans hs24 (Nat.le_trans hs35 hs38)))))) (Nat.le_of_eq hzO42)))) bO1_6
    replace bO5_0 := ho.box (Nat.ne_of_gt (Nat.lt_of_lt_of_le lt8 (Nat.le_trans (Nat.le_trans hs11 (Nat.le_trans hs17 (Nat.le_trans hs21 (Nat.le_trans hs24 (Nat.le_trans hs35 hs38))))) (Nat.le_of_eq hzO42)))) bO5_0
    replace bO5_1 := ho.box (Nat.ne_of_gt (Nat.lt_of_lt_of_le lt8 (Nat.le_trans (Nat.le_trans hs11 (Nat.le_trans hs17 (Nat.le_trans hs21 (Nat.le_trans hs24 (Nat.le_trans hs35 hs38))))) (Nat.le_of_eq hzO42)))) bO5_1
    replace bO9_0 := ho.box (Nat.ne_of_gt (Nat.lt_of_lt_of_le lt12 (Nat.le_trans (Nat.le_trans hs17 (Nat.le_trans hs21 (Nat.le_trans hs24 (Nat.le_trans hs35 hs38)))) (Nat.le_of_eq hzO42)))) bO9_0
    replace bO19_0 := ho.box (Nat.ne_of_gt (Nat.lt_of_lt_of_le lt22 (Nat.le_trans (Nat.le_trans hs24 (Nat.le_trans hs35 hs38)) (Nat.le_of_eq hzO42)))) bO19_0
    replace hr9 := ho.rows (Nat.ne_of_gt (Nat.lt_of_lt_of_le lt18 (Nat.le_trans (Nat.le_trans hs21 (Nat.le_trans hs24 (Nat.le_trans hs35 hs38))) (Nat.le_of_eq hzO42)))) hr9
    replace hrk41 := hrk41.turn ho (.inr (Nat.le_of_eq hzO42))
    have hs47 : X43.heap.size ≤ X46.heap.size := Nat.le_of_eq ho.size.symm
    clear ho hk bO42_0 bO42_1 bO42_2
    have bO42_0 := hv0; clear hv0
    have bO42_1 := hv1; clear hv1
    have bO42_2 := hv2; clear hv2
    refine ipl_nil ?_
    refine iqw_asg hrk41 (fun w49 hm48 => ?_)
    replace hE := hm48.ext hE (Nat.le_trans hs3 (Nat.le_trans hs7 (Nat.le_trans hs11 (Nat.le_trans hs17 (Nat.le_trans hs21 (Nat.le_trans hs24 hs35))))))
    replace bO1_0 := hm48.box bO1_0
    replace bO1_1 := hm48.box bO1_1
    replace bO1_2 := hm48.box bO1_2
    replace bO1_3 := hm48.box bO1_3
    replace bO1_4 := hm48.box bO1_4
    replace bO1_5 := hm48.box bO1_5
    replace bO1_6 := hm48.box bO1_6
    replace bO5_0 := hm48.box bO5_0
    replace bO5_1 := hm48.box bO5_1
    replace bO9_0 := hm48.box bO9_0
    replace bO19_0 := hm48.box bO19_0
    replace hr9 := hm48.rows hr9
    replace bO42_0 := hm48.box bO42_0
    replace bO42_1 := hm48.box bO42_1
    replace bO42_2 := hm48.box bO42_2
    have hs50 := hm48.size
    have hrk51 : RK w34.heap.size (fun k => k = B13) w49 w49 := RK.refl _ _ _
    refine icw_block ?_
    have hcy := Orb.cy_lt hok (s.1 + ((i : Nat) : Int) - d)
    have hcx := Swath.sx_lt o lk (s.1 + ((i : Nat) : Int) - d)
    have hvs := Swath.show_valid hok lk (s.1 - d) i
    have hv9 := hr9.va hvs
    have hrl := Globe.rowN_lt hvs (Orb.cy o (s.1 + ((i : Nat) : Int) - d))
    refine icw_draw [(some 18, [9], []), (some 19, [18], [0]), (some 20, [10], []), (some 21, [20], [2]), (some 22, [21], [3]), (some 23, [19, 22], [1, 4]), (some 24, [23], [5]), (some 25, [10], []), (some 26, [25], [7]), (some 27, [26], [8]), (some 28, [27], [9]), (some 29, [24, 28], [6, 10]), (some 30, [19, 22], [1, 4, 0, 1, 2, 3, 4, 5, 6, 7, 8, 9, 10, 11]), (none, [30, 29], [12, 11, 0, 1, 2, 3, 4, 5, 6, 7, 8, 9, 10, 11])] (fun w' => w'.cell? ⟨O19, 0, none⟩ = some (.slice (some ⟨B13, 0, none⟩) 24 24) ∧ w'.cell? ⟨O42, 1, none⟩ = some (.int .i64 (((Orb.cy o (s.1 + ((i : Nat) : Int) - d) : Nat) : Int) : Int)) ∧ w'.cell? ⟨O42, 0, none⟩ = some (.int .i64 (((Swath.sx o lk (s.1 + ((i : Nat) : Int) - d) : Nat) : Int) : Int))) (by kernel_rfl) (by kernel_rfl) (by kernel_rfl) (by kernel_rfl) ((calm_block calm_rnd)) (⟨bO19_0.1, bO42_1.1, bO42_0.1⟩) (fun ops Q X52 hb hL hR hK => ?_)
    replace hE := hE.trans hb
    replace bO1_0 := BoxAt.ext hb bO1_0
    replace bO1_1 := BoxAt.ext hb bO1_1
    replace bO1_2 := BoxAt.ext hb bO1_2
    replace bO1_3 := BoxAt.ext hb bO1_3
    replace bO1_4 := BoxAt.ext hb bO1_4
    replace bO1_5 := BoxAt.ext hb bO1_5
    replace bO1_6 := BoxAt.ext hb bO1_6
    replace bO5_0 := BoxAt.ext hb bO5_0
    replace bO5_1 := BoxAt.ext hb bO5_1
    replace bO9_0 := BoxAt.ext hb bO9_0
    replace bO19_0 := BoxAt.ext hb bO19_0
    replace hr9 := hr9.ext hb
    replace bO42_0 := BoxAt.ext hb bO42_0
    replace bO42_1 := BoxAt.ext hb bO42_1
    replace bO42_2 := BoxAt.ext hb bO42_2
    replace hrk51 := hrk51.ext hb
    replace hv9 := hv9.ext hb
    have hs53 := hb.size
    clear hb
    refine iwd_take 0 (.pointer (some ⟨O19, 0, none⟩)) hR rfl (by kernel_rfl) rfl (by kernel_rfl) (fun w _ => by kernel_rfl) (⟨bO19_0.1, bO42_1.1, bO42_0.1⟩) ?_
    refine iwd_take 1 (.slice (some ⟨B13, 0, none⟩) 24 24) hR rfl (by kernel_rfl) rfl (by kernel_rfl) (fun w hS => ex_load rfl (by kernel_rfl) (ld37 (hS.1))) (⟨bO19_0.1, bO42_1.1, bO42_0.1⟩) ?_
    refine iwd_take 2 (.pointer (some ⟨O42, 0, none⟩)) hR rfl (by kernel_rfl) rfl (by kernel_rfl) (fun w _ => by kernel_rfl) (⟨bO19_0.1, bO42_1.1, bO42_0.1⟩) ?_
    refine iwd_take 3 (.pointer (some ⟨O42, 1, none⟩)) hR rfl (by kernel_rfl) rfl (by kernel_rfl) (fun w _ => by kernel_rfl) (⟨bO19_0.1, bO42_1.1, bO42_0.1⟩) ?_
    refine iwd_take 4 (.int .i64 (((Orb.cy o (s.1 + ((i : Nat) : Int) - d) : Nat) : Int) : Int)) hR rfl (by kernel_rfl) rfl (by kernel_rfl) (fun w hS => ex_load rfl (by kernel_rfl) (ld3 (hS.2.1))) (⟨bO19_0.1, bO42_1.1, bO42_0.1⟩) ?_
    refine iwd_take 5 (.pointer (some ⟨B13, Orb.cy o (s.1 + ((i : Nat) : Int) - d), none⟩)) hR rfl (by kernel_rfl) rfl (by kernel_rfl) (fun w _ => ex_index (p := .slice (some ⟨B13, 0, none⟩) 24 24) (i := .int .i64 ((Orb.cy o (s.1 + ((i : Nat) : Int) - d) : Nat) : Int)) rfl (by kernel_rfl) (by kernel_rfl) (ix37z (k := Orb.cy o (s.1 + ((i : Nat) : Int) - d)) (by omega))) (⟨bO19_0.1, bO42_1.1, bO42_0.1⟩) ?_
    refine iwd_take 7 (.pointer (some ⟨O42, 0, none⟩)) hR rfl (by kernel_rfl) rfl (by kernel_rfl) (fun w _ => by kernel_rfl) (⟨bO19_0.1, bO42_1.1, bO42_0.1⟩) ?_
    refine iwd_take 8 (.pointer (some ⟨O42, 0, none⟩)) hR rfl (by kernel_rfl) rfl (by kernel_rfl) (fun w _ => by kernel_rfl) (⟨bO19_0.1, bO42_1.1, bO42_0.1⟩) ?_
    refine iwd_take 9 (.int .i64 (((Swath.sx o lk (s.1 + ((i : Nat) : Int) - d) : Nat) : Int) : Int)) hR rfl (by kernel_rfl) rfl (by kernel_rfl) (fun w hS => ex_load rfl (by kernel_rfl) (ld3 (hS.2.2))) (⟨bO19_0.1, bO42_1.1, bO42_0.1⟩) ?_
    refine iwd_take 10 (.int .i64 (((2 ^ (Swath.sx o lk (s.1 + ((i : Nat) : Int) - d)) : Nat) : Int) : Int)) hR rfl (by kernel_rfl) rfl (by kernel_rfl) (fun w _ => ex_bin rfl (by kernel_rfl) (by kernel_rfl) (bin_shl1 (by omega))) (⟨bO19_0.1, bO42_1.1, bO42_0.1⟩) ?_
    refine iwd_step 6 hR rfl (by kernel_rfl) (by kernel_rfl) (by kernel_rfl) (sn_eff (v := .int .i64 (((Globe.rowN (Swath.showL o lk (s.1 - d) i) (Orb.cy o (s.1 + ((i : Nat) : Int) - d)) : Nat) : Int) : Int)) (w' := X52) (ex_load rfl (by kernel_rfl) (ld3 (hv9.cell0 (y := Orb.cy o (s.1 + ((i : Nat) : Int) - d)) (by omega)))) ⟨⟨bO19_0.1, bO42_1.1, bO42_0.1⟩, ?_⟩)
    refine iwd_take 11 (.int .i64 ((((Globe.rowN (Swath.showL o lk (s.1 - d) i) (Orb.cy o (s.1 + ((i : Nat) : Int) - d))) ||| (2 ^ Swath.sx o lk (s.1 + ((i : Nat) : Int) - d)) : Nat) : Int) : Int)) hR rfl (by kernel_rfl) rfl (by kernel_rfl) (fun w _ => ev_int (show _ = Result.ok (Next.value (Value.int .i64 (bits .or .i64 ((Globe.rowN (Swath.showL o lk (s.1 - d) i) (Orb.cy o (s.1 + ((i : Nat) : Int) - d)) : Nat) : Int) ((2 ^ Swath.sx o lk (s.1 + ((i : Nat) : Int) - d) : Nat) : Int)))) _ from by kernel_rfl) (or_i64 _ _ (by omega) (by have : 2 ^ Swath.sx o lk (s.1 + ((i : Nat) : Int) - d) < 2 ^ 48 := Nat.pow_lt_pow_right (by decide) hcx; omega))) (⟨bO19_0.1, bO42_1.1, bO42_0.1⟩) ?_
    refine iwd_take 12 (.pointer (some ⟨B13, Orb.cy o (s.1 + ((i : Nat) : Int) - d), none⟩)) hR rfl (by kernel_rfl) rfl (by kernel_rfl) (fun w _ => ex_index (p := .slice (some ⟨B13, 0, none⟩) 24 24) (i := .int .i64 ((Orb.cy o (s.1 + ((i : Nat) : Int) - d) : Nat) : Int)) rfl (by kernel_rfl) (by kernel_rfl) (ix37z (k := Orb.cy o (s.1 + ((i : Nat) : Int) - d)) (by omega))) (⟨bO19_0.1, bO42_1.1, bO42_0.1⟩) ?_
    refine iwd_step 13 hR rfl (by kernel_rfl) (by kernel_rfl) (by kernel_rfl) (sn_row (g := B13) (y := Orb.cy o (s.1 + ((i : Nat) : Int) - d)) (v := (((Globe.rowN (Swath.showL o lk (s.1 - d) i) (Orb.cy o (s.1 + ((i : Nat) : Int) - d))) ||| (2 ^ Swath.sx o lk (s.1 + ((i : Nat) : Int) - d)) : Nat) : Int)) (ex_store (p := .pointer (some ⟨B13, Orb.cy o (s.1 + ((i : Nat) : Int) - d), none⟩)) (v := .int .i64 ((((Globe.rowN (Swath.showL o lk (s.1 - d) i) (Orb.cy o (s.1 + ((i : Nat) : Int) - d))) ||| (2 ^ Swath.sx o lk (s.1 + ((i : Nat) : Int) - d)) : Nat) : Int) : Int)) rfl (by kernel_rfl) (by kernel_rfl) (st3 (hr9.cell (by omega)) (hr9.free (by omega)))) hr9 (by omega) ?_)
    intro X54 ho hv0
    replace hE := ho.ext hE (Nat.le_trans (Nat.le_trans hs3 (Nat.le_trans hs7 hs11)) hn14)
    replace bO1_0 := ho.box (Nat.ne_of_gt (Nat.lt_of_lt_of_le lt4 (Nat.le_trans (Nat.le_trans hs7 hs11) hn14))) bO1_0
    replace bO1_1 := ho.box (Nat.ne_of_gt (Nat.lt_of_lt_of_le lt4 (Nat.le_trans (Nat.le_trans hs7 hs11) hn14))) bO1_1
    replace bO1_2 := ho.box (Nat.ne_of_gt (Nat.lt_of_lt_of_le lt4 (Nat.le_trans (Nat.le_trans hs7 hs11) hn14))) bO1_2
    replace bO1_3 := ho.box (Nat.ne_of_gt (Nat.lt_of_lt_of_le lt4 (Nat.le_trans (Nat.le_trans hs7 hs11) hn14))) bO1_3
    replace bO1_4 := ho.box (Nat.ne_of_gt (Nat.lt_of_lt_of_le lt4 (Nat.le_trans (Nat.le_trans hs7 hs11) hn14))) bO1_4
    replace bO1_5 := ho.box (Nat.ne_of_gt (Nat.lt_of_lt_of_le lt4 (Nat.le_trans (Nat.le_trans hs7 hs11) hn14))) bO1_5
    replace bO1_6 := ho.box (Nat.ne_of_gt (Nat.lt_of_lt_of_le lt4 (Nat.le_trans (Nat.le_trans hs7 hs11) hn14))) bO1_6
    replace bO5_0 := ho.box (Nat.ne_of_gt (Nat.lt_of_lt_of_le lt8 (Nat.le_trans hs11 hn14))) bO5_0
    replace bO5_1 := ho.box (Nat.ne_of_gt (Nat.lt_of_lt_of_le lt8 (Nat.le_trans hs11 hn14))) bO5_1
    replace bO9_0 := ho.box (Nat.ne_of_gt (Nat.lt_of_lt_of_le lt12 hn14)) bO9_0
    replace bO19_0 := ho.box (Nat.ne_of_lt (Nat.lt_of_lt_of_le lt18 (Nat.le_of_eq hzO19))) bO19_0
    replace bO42_0 := ho.box (Nat.ne_of_lt (Nat.lt_of_lt_of_le lt18 (Nat.le_trans (Nat.le_trans hs21 (Nat.le_trans hs24 (Nat.le_trans hs35 hs38))) (Nat.le_of_eq hzO42)))) bO42_0
    replace bO42_1 := ho.box (Nat.ne_of_lt (Nat.lt_of_lt_of_le lt18 (Nat.le_trans (Nat.le_trans hs21 (Nat.le_trans hs24 (Nat.le_trans hs35 hs38))) (Nat.le_of_eq hzO42)))) bO42_1
    replace bO42_2 := ho.box (Nat.ne_of_lt (Nat.lt_of_lt_of_le lt18 (Nat.le_trans (Nat.le_trans hs21 (Nat.le_trans hs24 (Nat.le_trans hs35 hs38))) (Nat.le_of_eq hzO42)))) bO42_2
    replace hrk51 := hrk51.turn ho (.inl (rfl))
    have hs55 : X52.heap.size ≤ X54.heap.size := Nat.le_of_eq ho.size.symm
    clear ho hr9; have hr9 := hv0; clear hv0
    refine ⟨⟨bO19_0.1, bO42_1.1, bO42_0.1⟩, ?_⟩
    refine iwd_end hL hR hK (by kernel_rfl) ?_
    refine iqw_block ?_
    exact iqw_next hrk51 ⟨(Nat.le_trans hs38 (Nat.le_trans hs44 (Nat.le_trans hs47 (Nat.le_trans hs50 (Nat.le_trans hs53 hs55))))), hE, bO1_0, bO1_1, bO1_2, bO1_3, bO1_4, bO1_5, bO1_6, bO5_0, bO5_1, bO9_0, bO19_0, (show_next hr9)⟩
  ·
    clear bO1_0 bO1_1 bO1_2 bO1_3 bO1_4 bO1_5 bO1_6 bO5_0 bO5_1 bO9_0 hr15 bO19_0 hE
    intro D56 w57 hD60 hDl61 h hmk59
    obtain ⟨hs58, hE, bO1_0, bO1_1, bO1_2, bO1_3, bO1_4, bO1_5, bO1_6, bO5_0, bO5_1, bO9_0, bO19_0, hr9⟩ := h
    refine iqw_block ?_
    refine iqw_then ?_
    refine icw_seq ?_
    refine icw_plain ?_
    refine ipl_take (.agg #[.slice (some ⟨B13, 0, none⟩) 24 24]) rfl (by kernel_rfl) (by kernel_rfl) (by kernel_rfl) (ex_load rfl (by kernel_rfl) (ld39 (bO19_0.1))) ?_
    refine ipl_put rfl (by kernel_rfl) (by kernel_rfl) (sn_set (O := O9) (j := 0) (v := .slice (some ⟨B13, 0, none⟩) 24 24) (ex_store (p := .pointer (some ⟨O9, 0, none⟩)) (v := .agg #[.slice (some ⟨B13, 0, none⟩) 24 24]) rfl (by kernel_rfl) (by kernel_rfl) (st39 bO9_0.1 bO9_0.2)) bO9_0 ?_)
    intro X62 ho hv0 hk
    replace hE := ho.ext hE (Nat.le_trans (Nat.le_trans hs3 hs7) (Nat.le_of_eq hzO9))
    replace bO1_0 := ho.box (Nat.ne_of_gt (Nat.lt_of_lt_of_le lt4 (Nat.le_trans hs7 (Nat.le_of_eq hzO9)))) bO1_0
    replace bO1_1 := ho.box (Nat.ne_of_gt (Nat.lt_of_lt_of_le lt4 (Nat.le_trans hs7 (Nat.le_of_eq hzO9)))) bO1_1
    replace bO1_2 := ho.box (Nat.ne_of_gt (Nat.lt_of_lt_of_le lt4 (Nat.le_trans hs7 (Nat.le_of_eq hzO9)))) bO1_2
    replace bO1_3 := ho.box (Nat.ne_of_gt (Nat.lt_of_lt_of_le lt4 (Nat.le_trans hs7 (Nat.le_of_eq hzO9)))) bO1_3
    replace bO1_4 := ho.box (Nat.ne_of_gt (Nat.lt_of_lt_of_le lt4 (Nat.le_trans hs7 (Nat.le_of_eq hzO9)))) bO1_4
    replace bO1_5 := ho.box (Nat.ne_of_gt (Nat.lt_of_lt_of_le lt4 (Nat.le_trans hs7 (Nat.le_of_eq hzO9)))) bO1_5
    replace bO1_6 := ho.box (Nat.ne_of_gt (Nat.lt_of_lt_of_le lt4 (Nat.le_trans hs7 (Nat.le_of_eq hzO9)))) bO1_6
    replace bO5_0 := ho.box (Nat.ne_of_gt (Nat.lt_of_lt_of_le lt8 (Nat.le_of_eq hzO9))) bO5_0
    replace bO5_1 := ho.box (Nat.ne_of_gt (Nat.lt_of_lt_of_le lt8 (Nat.le_of_eq hzO9))) bO5_1
    replace bO19_0 := ho.box (Nat.ne_of_lt (Nat.lt_of_lt_of_le lt12 (Nat.le_trans hs17 (Nat.le_of_eq hzO19)))) bO19_0
    replace hr9 := ho.rows (Nat.ne_of_lt (Nat.lt_of_lt_of_le lt12 hn14)) hr9
    replace hmk59 := mk_turn hmk59 ho
    have hs63 : w57.heap.size ≤ X62.heap.size := Nat.le_of_eq ho.size.symm
    clear ho hk bO9_0
    have bO9_0 := hv0; clear hv0
    refine ipl_nil ?_
    refine iqw_then ?_
    refine icw_clean [8] (ws' := [(8, .pointer (some ⟨O9, 0, none⟩))]) (by kernel_rfl) (fun L => ?_)
    refine icw_ret ?_
    refine iqw_ret w.heap.size [.agg #[.slice (some ⟨B13, 0, none⟩) 24 24]] rfl (marksC (Nat.le_trans (Nat.le_trans hs3 (Nat.le_trans hs7 (Nat.le_trans hs11 (Nat.le_trans hs17 (Nat.le_trans hs21 (Nat.le_trans hs24 hs35)))))) hD60) hmk59 (fun _ h => by cases h)) (by simp) (fun W9 hm9 => ?_)
    replace hE := hm9.ext hE (Nat.le_refl _)
    replace bO1_0 := hm9.box bO1_0
    replace bO1_1 := hm9.box bO1_1
    replace bO1_2 := hm9.box bO1_2
    replace bO1_3 := hm9.box bO1_3
    replace bO1_4 := hm9.box bO1_4
    replace bO1_5 := hm9.box bO1_5
    replace bO1_6 := hm9.box bO1_6
    replace bO5_0 := hm9.box bO5_0
    replace bO5_1 := hm9.box bO5_1
    replace bO19_0 := hm9.box bO19_0
    replace hr9 := hm9.rows hr9
    replace bO9_0 := hm9.box bO9_0
    have hs64 := hm9.size
    refine ⟨⟨⟨_, by kernel_rfl, res_ld (ld39 (bO9_0.1))⟩, trivial⟩, ?_⟩
    exact ⟨B13, rfl, (Nat.le_trans (Nat.le_trans hs3 (Nat.le_trans hs7 hs11)) hn14), hr9, hE⟩
  · intro _ _ _ _ _ _ _ h _; exact h.elim

end Go.Proofs.YtdjjkhefdalokaaDoor

/- Arrays of ints: reading one out of memory, comparing two. -/
namespace Go.Proofs.YtdjjkhefdalokaaDoor
open Go.RowKit

def intVals (l : List Int) : List Value := l.map (Value.int .i64)
theorem intVals_at {l : List Int} {i : Nat} (h : i < l.length) : (intVals l).toArray[i]? = some (.int .i64 (Globe.nth l i)) := by
  simp [intVals, Globe.nth, h]
theorem eqItems_ints {P : Program} (d : Nat) (e : TypeId) (hp : P.plainKey e = true) (hc : P.cellsOf e = 1) (hu : P.underlying e = some (.int .i64)) (xs ys : List Int) (w : World) :
    ∀ is : List Nat, (∀ i ∈ is, i < xs.length ∧ i < ys.length) → (Op.eqItems (d + 1) e (P.cellsOf e) (intVals xs).toArray (intVals ys).toArray is).run P w = .ok (is.all fun i => Globe.nth xs i == Globe.nth ys i) w
  | [], _ => by simp [Op.eqItems]
  | i :: is, h => by
    obtain ⟨h1, h2⟩ := h i (by simp)
    have ih := eqItems_ints d e hp hc hu xs ys w is (fun j hj => h j (by simp [hj]))
    have p1 : (part e (intVals xs).toArray (i * P.cellsOf e)).run P w = .ok (.int .i64 (Globe.nth xs i)) w := run_part_plain w hp (by rw [hc, Nat.mul_one]; exact intVals_at h1)
    have p2 : (part e (intVals ys).toArray (i * P.cellsOf e)).run P w = .ok (.int .i64 (Globe.nth ys i)) w := run_part_plain w hp (by rw [hc, Nat.mul_one]; exact intVals_at h2)
    simp only [Op.eqItems, Sem.run_bind, p1, p2, Result.andThen_ok, run_equalIn_int w d e .i64 .i64 _ _ hu, List.all_cons]
    cases hq : (Globe.nth xs i == Globe.nth ys i)
    · simp
    · simpa using ih
theorem equalIn_rows {P : Program} (t e : TypeId) (hu : P.underlying t = some (.array 24 e)) (hs : (P.info? e).isSome = true) (hp : P.plainKey e = true) (hc : P.cellsOf e = 1) (hue : P.underlying e = some (.int .i64)) (L : List Int) (hL : L.length = 24) (w : World) :
    (Op.equalIn 10000 t (.agg (intVals L).toArray) (.agg (intVals Globe.zeroL).toArray)).run P w = .ok (decide (L = Globe.zeroL)) w := by
  obtain ⟨i, hi⟩ := Option.isSome_iff_exists.1 hs
  rw [run_equalIn_array w 9999 _ _ hu hi, eqItems_ints 9998 e hp hc hue L Globe.zeroL w (List.range 24) (fun j hj => by have := List.mem_range.1 hj; simp [Globe.zeroL]; omega)]
  congr 1
  rw [Bool.eq_iff_iff, decide_eq_true_eq, List.all_eq_true]
  constructor
  · intro h
    exact Globe.ext_nth (by rw [hL]; rfl) fun j hj => by simpa using h j (List.mem_range.2 (by omega))
  · rintro rfl j _
    simp
/-- A load of a row of ints, guarded or not. -/
theorem wpList_load_g {P : Program} {ops : Array Oper} {rest : List Oper} {op : Oper} {a : Act} {w : World} {Q : Exit → Act → World → Prop} (hw : Region.wanted op (yielded ops a.tmps) = true) (ty : TypeId) (x : Operand) (ho : op.op = .load ty x)
    (b o : Nat) (hx : a.eval x = .pointer (some ⟨b, o, none⟩)) (cs : List Value) (d : TypeDesc) (hc : w.rangeAt b o cs)
    (hu : P.underlying ty = some d) (hd : d.isRow = true) (hi : (P.info? ty).map (·.size) = some cs.length)
    (h : wpList P ops Q rest (a.put op.dst (.agg cs.toArray)) w) : wpList P ops Q (op :: rest) a w :=
  wpList_step fun _ hK => by
    rw [if_pos hw]
    exact wp_load_mid ty x ho b o hx cs d hc hu hd hi (hK _ _ h)
theorem RowsAt.range {w : World} {B : Nat} {L : List Int} (h : RowsAt w B L) : w.rangeAt B 0 (intVals L) := by
  intro j v hv
  have hj : j < L.length := by
    rw [← List.length_map (f := Value.int .i64)]
    exact (List.getElem?_eq_some_iff.1 hv).1
  have : v = .int .i64 (Globe.nth L j) := by
    have e := intVals_at hj
    rw [List.getElem?_toArray] at e
    rw [e] at hv; cases hv; rfl
  rw [this, Nat.zero_add]
  exact h.cell (by rw [← h.len]; exact hj)

end Go.Proofs.YtdjjkhefdalokaaDoor

/- The rows of an area, appended to an empty slice. -/
namespace Go.Proofs.YtdjjkhefdalokaaDoor
open Go.RowKit

theorem intT9 : ElemT Tryd.prog 37 3 (.int .i64 0) 1 8 := ⟨Tryd.underlying37, by kernel_rfl, rfl, by decide⟩
/-- What a slice of its own, of 24 ints, owns: rows. -/
theorem rows_own9 {w : World} {base : Nat} {v : Value} {L : List Int} (hL : L.length = 24) (h : w.ownsRow base 3 1 v 24 (intVals L)) : ∃ g k, v = .slice (some ⟨g, 0, none⟩) 24 k ∧ base ≤ g ∧ RowsAt w g L := by
  rcases h.2 with ⟨_, h0⟩ | ⟨g, cap, cur, rfl, hb, _, _⟩
  · omega
  · refine ⟨g, cap, rfl, hb, hL, fun i hi => ?_, fun i hi => h.frozenAt i⟩
    rw [h.cellAt i (by omega)]
    simp [intVals, Globe.nth, show i < L.length by omega]

/-- The rows of an area, appended to an empty slice. -/
theorem app_rows9 {w : World} {O b o c : Nat} {ty : TypeId} {L : List Int} (hO : w.heap[O]? = some (.cells #[] 3 (0, 0))) (h : VA w b o L) :
    ∃ g cap w', (Builtin.append_ #[37, 37] ty #[.slice (some ⟨O, 0, none⟩) 0 0, .slice (some ⟨b, o, none⟩) 24 c]).run Tryd.prog w = .ok (.slice (some ⟨g, 0, none⟩) 24 cap) w' ∧ RowsAt w' g L ∧ O ≤ g ∧ Grew O w w' := by
  have hOl : O < w.heap.size := by
    rcases Nat.lt_or_ge O w.heap.size with q | q
    · exact q
    · rw [Array.getElem?_eq_none q] at hO; cases hO
  obtain ⟨i, hi, hz0, hz1, hz2⟩ := info_parts intT9.info
  have hl := h.len
  have hx : ∀ j u, (intVals L)[j]? = some u → w.cell? ((⟨b, o, none⟩ : Addr).add j) = some u := fun j u hj => by
    have hjl : j < L.length := by rw [← List.length_map (f := Value.int .i64)]; exact (List.getElem?_eq_some_iff.1 hj).1
    have e := intVals_at hjl
    rw [List.getElem?_toArray, hj] at e
    cases e
    rw [Addr.add_mid]; exact h.1 j (by omega)
  obtain ⟨v', w', hrun, hown, hg, _, _⟩ := run_append_own_at (P := Tryd.prog) w O 37 ty 3 i (.int .i64 0) 1 8 intT9.under hi hz0 hz1 hz2 rfl (by decide) (.slice (some ⟨O, 0, none⟩) 0 0) 0 [] (own_empty hO (Nat.le_refl _)) ⟨b, o, none⟩ 24 c (intVals L) (by simp [intVals, hl]) hx
    (by simp [intVals, Value.oneCell']) (by unfold maxLen; omega) (by omega) (by omega)
  have hown2 : w'.ownsRow O 3 1 v' 24 (intVals L) := by simpa using hown
  obtain ⟨g, k, rfl, hgO, hr⟩ := rows_own9 hl hown2
  exact ⟨g, k, w', hrun, hr, hgO, ⟨hg.size, fun U hU hUn => Ext.own' hU (own_empty (size := 1) hO (Nat.le_refl _)) hUn hg⟩⟩

end Go.Proofs.YtdjjkhefdalokaaDoor

/- Contracts of package swath: the closures of Strip. -/
namespace Go.Proofs.YtdjjkhefdalokaaDoor
open Go.RowKit

/-- A new strip of one's own. -/
def RetSt (w : World) (L1 L2 : List Int) (e : Ending) (w' : World) : Prop :=
  ∃ B g c1 c2 : Nat, e = .returned (.agg #[.slice (some ⟨B, 0, none⟩) 24 c1, .slice (some ⟨g, 0, none⟩) 24 c2]) ∧ w.heap.size ≤ B ∧ w.heap.size ≤ g ∧ B ≠ g ∧ RowsAt w' B L1 ∧ RowsAt w' g L2 ∧ Ext w w'
/-- What the closures of Strip and Suns have captured. -/
def StAt (w : World) (Bo Bs Bl : Nat) (o : Orb) (s : Int × Int) (lk : Int) : Prop :=
  (w.cell? ⟨Bo, 0, none⟩ = some (.int .i64 o.p) ∧ w.cell? ⟨Bo, 1, none⟩ = some (.int .i64 o.f) ∧ w.cell? ⟨Bo, 2, none⟩ = some (.int .i64 o.lo) ∧ w.cell? ⟨Bo, 3, none⟩ = some (.int .i64 o.hi) ∧ w.cell? ⟨Bo, 4, none⟩ = some (.int .i64 o.nd) ∧ w.cell? ⟨Bo, 5, none⟩ = some (.int .i64 o.tn) ∧ w.cell? ⟨Bo, 6, none⟩ = some (.int .i64 o.sl)) ∧
  w.cell? ⟨Bs, 0, none⟩ = some (.int .i64 s.1) ∧ w.cell? ⟨Bs, 1, none⟩ = some (.int .i64 s.2) ∧ w.cell? ⟨Bl, 0, none⟩ = some (.int .i64 lk)
set_option maxRecDepth 1000000 in
set_option maxHeartbeats 4000000 in
theorem value_c {w0 : World} {Bo Bs Bl : Nat} {o : Orb} {s : Int × Int} {lk : Int} (d : Int) (w : World) (hS : StAt w0 Bo Bs Bl o s lk) (e0 : Ext w0 w) (hv : Swath.shB o s lk = true) (hd9 : Globe.inB d (-o.sl) o.sl = true) : Calls Tryd.prog 27 #[.int .i64 d, .pointer (some ⟨Bo, 0, none⟩), .pointer (some ⟨Bs, 0, none⟩), .pointer (some ⟨Bl, 0, none⟩)] w (RetSt w (Swath.showL o lk (s.1 - d) (s.2 - s.1).toNat) (Swath.showL o lk (s.1 - d) (s.2 - s.1).toNat)) := by
  obtain ⟨⟨o0, o1, o2, o3, o4, o5, o6⟩, a0, a1, l0⟩ := hS
  replace o0 := e0.cell o0
  replace o1 := e0.cell o1
  replace o2 := e0.cell o2
  replace o3 := e0.cell o3
  replace o4 := e0.cell o4
  replace o5 := e0.cell o5
  replace o6 := e0.cell o6
  replace a0 := e0.cell a0
  replace a1 := e0.cell a1
  replace l0 := e0.cell l0
  refine calls_cw 19 [(3, .pointer (some ⟨Bl, 0, none⟩)), (2, .pointer (some ⟨Bs, 0, none⟩)), (1, .pointer (some ⟨Bo, 0, none⟩)), (0, .int .i64 (d : Int))] Tryd.func27 rfl Tryd.ntmps27 (by kernel_rfl) (by kernel_rfl) (fun L => ?_)
  have hE : Ext w w := Ext.refl w
  refine cw_seq ?_
  refine cw_plain ?_
  refine pl_step rfl (by kernel_rfl) (by kernel_rfl) (by kernel_rfl) (sn_new (us := #[.slice none 0 0, .slice none 0 0]) (t := 43) (by kernel_rfl) ?_)
  intro O1 X2 hO hOs hb hbx
  have hzO1 := hO; have hyO1 := hOs; clear hO hOs
  have bO1_0 : BoxAt X2 O1 0 (.slice none 0 0) := hbx 0 _ rfl
  have bO1_1 : BoxAt X2 O1 1 (.slice none 0 0) := hbx 1 _ rfl
  clear hbx
  replace hE := hE.trans hb
  have hs3 := hb.size
  clear hb
  have lt4 := bO1_0.lt
  refine pl_nil ?_
  refine qw_then ?_
  refine cw_seq ?_
  refine cw_plain ?_
  refine pl_take (.agg #[.int .i64 (o.p : Int), .int .i64 (o.f : Int), .int .i64 (o.lo : Int), .int .i64 (o.hi : Int), .int .i64 (o.nd : Int), .int .i64 (o.tn : Int), .int .i64 (o.sl : Int)]) rfl (by kernel_rfl) (by kernel_rfl) (by kernel_rfl) (ex_load rfl (by kernel_rfl) (ld26 ((hE.cell o0)) ((hE.cell o1)) ((hE.cell o2)) ((hE.cell o3)) ((hE.cell o4)) ((hE.cell o5)) ((hE.cell o6)))) ?_
  refine pl_take (.agg #[.int .i64 (s.1 : Int), .int .i64 (s.2 : Int)]) rfl (by kernel_rfl) (by kernel_rfl) (by kernel_rfl) (ex_load rfl (by kernel_rfl) (ld29 ((hE.cell a0)) ((hE.cell a1)))) ?_
  refine pl_take (.int .i64 (lk : Int)) rfl (by kernel_rfl) (by kernel_rfl) (by kernel_rfl) (ex_load rfl (by kernel_rfl) (ld3 ((hE.cell l0)))) ?_
  refine pl_take (.int .i64 (d : Int)) rfl (by kernel_rfl) (by kernel_rfl) (by kernel_rfl) (by kernel_rfl) ?_
  refine pl_step rfl (by kernel_rfl) (by kernel_rfl) (by kernel_rfl) (sn_call (f := 26) (args := #[.agg #[.int .i64 (o.p : Int), .int .i64 (o.f : Int), .int .i64 (o.lo : Int), .int .i64 (o.hi : Int), .int .i64 (o.nd : Int), .int .i64 (o.tn : Int), .int .i64 (o.sl : Int)], .agg #[.int .i64 (s.1 : Int), .int .i64 (s.2 : Int)], .int .i64 (lk : Int), .int .i64 (d : Int)]) (by kernel_rfl) ((area_c o s lk d _ hv hd9).mono ?_))
  rintro e w8 ⟨B5, rfl, hn6, hr7, hb⟩
  replace hE := hE.trans hb
  replace bO1_0 := BoxAt.ext hb bO1_0
  replace bO1_1 := BoxAt.ext hb bO1_1
  have hs9 := hb.size
  clear hb
  have lt10 := hr7.lt
  refine ⟨_, rfl, ?_⟩
  refine pl_step rfl (by kernel_rfl) (by kernel_rfl) (by kernel_rfl) (sn_new (us := #[.slice none 0 0]) (t := 39) (by kernel_rfl) ?_)
  intro O11 X12 hO hOs hb hbx
  have hzO11 := hO; have hyO11 := hOs; clear hO hOs
  have bO11_0 : BoxAt X12 O11 0 (.slice none 0 0) := hbx 0 _ rfl
  clear hbx
  replace hE := hE.trans hb
  replace bO1_0 := BoxAt.ext hb bO1_0
  replace bO1_1 := BoxAt.ext hb bO1_1
  replace hr7 := hr7.ext hb
  have hs13 := hb.size
  clear hb
  have lt14 := bO11_0.lt
  refine pl_put rfl (by kernel_rfl) (by kernel_rfl) (sn_set (O := O11) (j := 0) (v := .slice (some ⟨B5, 0, none⟩) 24 24) (ex_store (p := .pointer (some ⟨O11, 0, none⟩)) (v := .agg #[.slice (some ⟨B5, 0, none⟩) 24 24]) rfl (by kernel_rfl) (by kernel_rfl) (st39 bO11_0.1 bO11_0.2)) bO11_0 ?_)
  intro X15 ho hv0 hk
  replace hE := ho.ext hE (Nat.le_trans (Nat.le_trans hs3 hs9) (Nat.le_of_eq hzO11))
  replace bO1_0 := ho.box (Nat.ne_of_gt (Nat.lt_of_lt_of_le lt4 (Nat.le_trans hs9 (Nat.le_of_eq hzO11)))) bO1_0
  replace bO1_1 := ho.box (Nat.ne_of_gt (Nat.lt_of_lt_of_le lt4 (Nat.le_trans hs9 (Nat.le_of_eq hzO11)))) bO1_1
  replace hr7 := ho.rows (Nat.ne_of_gt (Nat.lt_of_lt_of_le lt10 (Nat.le_of_eq hzO11))) hr7
  have hs16 : X12.heap.size ≤ X15.heap.size := Nat.le_of_eq ho.size.symm
  clear ho hk bO11_0
  have bO11_0 := hv0; clear hv0
  refine pl_nil ?_
  refine qw_then ?_
  refine cw_seq ?_
  have hva := hr7.va (Swath.show_valid (Swath.shB_t.1 hv).1 lk (s.1 - d) (s.2 - s.1).toNat)
  have hX17 : Ext X15 X15 := Ext.refl _
  refine cw_draw [(some 12, [6], []), (some 13, [], []), (some 14, [6], []), (some 15, [14], [2]), (some 16, [13, 15], [1, 3]), (some 17, [16], [4]), (some 18, [12, 17], [0, 5]), (none, [5, 18], [6, 4, 0, 1, 2, 3, 4, 5, 6])] (fun w' => w'.cell? ⟨O11, 0, none⟩ = some (.slice (some ⟨B5, 0, none⟩) 24 24)) (by kernel_rfl) (by kernel_rfl) (by kernel_rfl) (by kernel_rfl) ((calm_then calm_body)) (bO11_0.1) (fun ops Q X18 hb hL hR hK => ?_)
  replace hE := hE.trans hb
  replace hX17 := hX17.trans hb
  have hs19 := hb.size
  clear hb
  have hS20 := (BoxAt.ext hX17 bO11_0).1
  refine wd_take 0 (.agg #[.slice (some ⟨B5, 0, none⟩) 24 24]) hR rfl (by kernel_rfl) rfl (by kernel_rfl) (fun w hS => ex_load rfl (by kernel_rfl) (ld39 (hS))) (hS20) ?_
  refine wd_take 2 (.pointer (some ⟨O11, 0, none⟩)) hR rfl (by kernel_rfl) rfl (by kernel_rfl) (fun w _ => by kernel_rfl) (hS20) ?_
  refine wd_take 3 (.slice (some ⟨B5, 0, none⟩) 24 24) hR rfl (by kernel_rfl) rfl (by kernel_rfl) (fun w hS => ex_load rfl (by kernel_rfl) (ld37 (hS))) (hS20) ?_
  refine wd_step 1 hR rfl (by kernel_rfl) (by kernel_rfl) (by kernel_rfl) (sn_newS0 (t := 3) (by kernel_rfl) ?_)
  intro O21 X22 hO hOs hb hpO21
  have hzO21 := hO; have hyO21 : O21 < X22.heap.size := (by omega); clear hO hOs
  replace hE := hE.trans hb
  replace hX17 := hX17.trans hb
  have hs23 := hb.size
  clear hb
  have hS24 := (BoxAt.ext hX17 bO11_0).1
  refine ⟨hS24, ?_⟩
  obtain ⟨g25, cap26, w27, hrun28, hrow29, hge30, hgr31⟩ := app_rows9 (ty := 37) (c := 24) hpO21 (hva.ext hX17)
  refine wd_step 4 hR rfl (by kernel_rfl) (by kernel_rfl) (by kernel_rfl) (sn_eff (v := .slice (some ⟨g25, 0, none⟩) 24 cap26) (w' := w27) (ex_append rfl (by kernel_rfl) (by kernel_rfl) hrun28) ?_)
  replace hE := hgr31.ext _ hE (Nat.le_trans (Nat.le_trans hs3 (Nat.le_trans hs9 (Nat.le_trans hs13 (Nat.le_trans hs16 hs19)))) (Nat.le_of_eq hzO21))
  replace hX17 := hgr31.ext _ hX17 (Nat.le_trans hs19 (Nat.le_of_eq hzO21))
  have hs32 := hgr31.size
  have lt33 := hrow29.lt
  have hS34 := (BoxAt.ext hX17 bO11_0).1
  refine ⟨hS34, ?_⟩
  refine wd_take 5 (.agg #[.slice (some ⟨g25, 0, none⟩) 24 cap26]) hR rfl (by kernel_rfl) rfl (by kernel_rfl) (fun w _ => by kernel_rfl) (hS34) ?_
  refine wd_take 6 (.agg #[.slice (some ⟨B5, 0, none⟩) 24 24, .slice (some ⟨g25, 0, none⟩) 24 cap26]) hR rfl (by kernel_rfl) rfl (by kernel_rfl) (fun w _ => by kernel_rfl) (hS34) ?_
  have bO1_t36 := (BoxAt.ext hX17 bO1_0)
  have bO1_t37 := (BoxAt.ext hX17 bO1_1)
  have hrt38 := (hr7.ext hX17)
  have bO11_t39 := (BoxAt.ext hX17 bO11_0)
  have hvat40 := (hva.ext hX17)
  refine wd_step 7 hR rfl (by kernel_rfl) (by kernel_rfl) (by kernel_rfl) (sn_set2 (O := O1) (j := 0) (v := .slice (some ⟨B5, 0, none⟩) 24 24) (v' := .slice (some ⟨g25, 0, none⟩) 24 cap26) (ex_store (p := .pointer (some ⟨O1, 0, none⟩)) (v := .agg #[.slice (some ⟨B5, 0, none⟩) 24 24, .slice (some ⟨g25, 0, none⟩) 24 cap26]) rfl (by kernel_rfl) (by kernel_rfl) (st43 bO1_t36.1 bO1_t36.2 bO1_t37.1 bO1_t37.2)) bO1_t36 bO1_t37 ?_)
  intro X35 ho hv0 hv1 hk
  replace hE := ho.ext hE (Nat.le_of_eq hzO1)
  replace hrt38 := ho.rows (Nat.ne_of_lt (Nat.lt_of_lt_of_le lt4 hn6)) hrt38
  replace bO11_t39 := ho.box (Nat.ne_of_lt (Nat.lt_of_lt_of_le lt4 (Nat.le_trans hs9 (Nat.le_of_eq hzO11)))) bO11_t39
  replace hvat40 := ho.va (Nat.ne_of_lt (Nat.lt_of_lt_of_le lt4 hn6)) hvat40
  replace hrow29 := ho.rows (Nat.ne_of_lt (Nat.lt_of_lt_of_le lt4 (Nat.le_trans (Nat.le_trans hs9 (Nat.le_trans hs13 (Nat.le_trans hs16 hs19))) (Nat.le_trans (Nat.le_of_eq hzO21) hge30)))) hrow29
  have hs41 : w27.heap.size ≤ X35.heap.size := Nat.le_of_eq ho.size.symm
  clear ho hk bO1_t36 bO1_t37
  have bO1_t36 := hv0; clear hv0
  have bO1_t37 := hv1; clear hv1
  refine ⟨bO11_t39.1, ?_⟩
  refine wd_end hL hR hK (by kernel_rfl) ?_
  refine qw_then ?_
  refine cw_clean [5] (ws' := [(5, .pointer (some ⟨O1, 0, none⟩))]) (by kernel_rfl) (fun L => ?_)
  refine cw_ret ?_
  refine qw_ret [.agg #[.slice (some ⟨B5, 0, none⟩) 24 24, .slice (some ⟨g25, 0, none⟩) 24 cap26]] rfl ⟨⟨_, by kernel_rfl, res_ld (ld43 (bO1_t36.1) (bO1_t37.1))⟩, trivial⟩ ?_
  exact ⟨B5, g25, _, _, rfl, (Nat.le_trans hs3 hn6), (Nat.le_trans (Nat.le_trans hs3 (Nat.le_trans hs9 (Nat.le_trans hs13 (Nat.le_trans hs16 hs19)))) (Nat.le_trans (Nat.le_of_eq hzO21) hge30)), (Nat.ne_of_lt (Nat.lt_of_lt_of_le lt10 (Nat.le_trans (Nat.le_trans hs13 (Nat.le_trans hs16 hs19)) (Nat.le_trans (Nat.le_of_eq hzO21) hge30)))), hrt38, hrow29, hE⟩
set_option maxRecDepth 1000000 in
set_option maxHeartbeats 4000000 in
theorem first_c {A1 A2 k1 k2 : Nat} (w : World) : Calls Tryd.prog 30 #[.agg #[.slice (some ⟨A1, 0, none⟩) 24 k1, .slice (some ⟨A2, 0, none⟩) 24 k2]] w fun e w' => e = .returned (.agg #[.slice (some ⟨A1, 0, none⟩) 24 k1, .slice (some ⟨A2, 0, none⟩) 24 k2]) ∧ Ext w w' := by
  refine calls_cw 4 [(0, .agg #[.slice (some ⟨A1, 0, none⟩) 24 k1, .slice (some ⟨A2, 0, none⟩) 24 k2])] Tryd.func30 rfl Tryd.ntmps30 (by kernel_rfl) (by kernel_rfl) (fun L => ?_)
  have hE : Ext w w := Ext.refl w
  refine cw_seq ?_
  refine cw_plain ?_
  refine pl_step rfl (by kernel_rfl) (by kernel_rfl) (by kernel_rfl) (sn_new (us := #[.slice (some ⟨A1, 0, none⟩) 24 k1, .slice (some ⟨A2, 0, none⟩) 24 k2]) (t := 43) (by kernel_rfl) ?_)
  intro O1 X2 hO hOs hb hbx
  have hzO1 := hO; have hyO1 := hOs; clear hO hOs
  have bO1_0 : BoxAt X2 O1 0 (.slice (some ⟨A1, 0, none⟩) 24 k1) := hbx 0 _ rfl
  have bO1_1 : BoxAt X2 O1 1 (.slice (some ⟨A2, 0, none⟩) 24 k2) := hbx 1 _ rfl
  clear hbx
  replace hE := hE.trans hb
  have hs3 := hb.size
  clear hb
  have lt4 := bO1_0.lt
  refine pl_step rfl (by kernel_rfl) (by kernel_rfl) (by kernel_rfl) (sn_new (us := #[.slice none 0 0, .slice none 0 0]) (t := 43) (by kernel_rfl) ?_)
  intro O5 X6 hO hOs hb hbx
  have hzO5 := hO; have hyO5 := hOs; clear hO hOs
  have bO5_0 : BoxAt X6 O5 0 (.slice none 0 0) := hbx 0 _ rfl
  have bO5_1 : BoxAt X6 O5 1 (.slice none 0 0) := hbx 1 _ rfl
  clear hbx
  replace hE := hE.trans hb
  replace bO1_0 := BoxAt.ext hb bO1_0
  replace bO1_1 := BoxAt.ext hb bO1_1
  have hs7 := hb.size
  clear hb
  have lt8 := bO5_0.lt
  refine pl_nil ?_
  refine qw_then ?_
  refine cw_seq ?_
  refine cw_plain ?_
  refine pl_take (.agg #[.slice (some ⟨A1, 0, none⟩) 24 k1, .slice (some ⟨A2, 0, none⟩) 24 k2]) rfl (by kernel_rfl) (by kernel_rfl) (by kernel_rfl) (ex_load rfl (by kernel_rfl) (ld43 (bO1_0.1) (bO1_1.1))) ?_
  refine pl_put rfl (by kernel_rfl) (by kernel_rfl) (sn_set2 (O := O5) (j := 0) (v := .slice (some ⟨A1, 0, none⟩) 24 k1) (v' := .slice (some ⟨A2, 0, none⟩) 24 k2) (ex_store (p := .pointer (some ⟨O5, 0, none⟩)) (v := .agg #[.slice (some ⟨A1, 0, none⟩) 24 k1, .slice (some ⟨A2, 0, none⟩) 24 k2]) rfl (by kernel_rfl) (by kernel_rfl) (st43 bO5_0.1 bO5_0.2 bO5_1.1 bO5_1.2)) bO5_0 bO5_1 ?_)
  intro X9 ho hv0 hv1 hk
  replace hE := ho.ext hE (Nat.le_trans hs3 (Nat.le_of_eq hzO5))
  replace bO1_0 := ho.box (Nat.ne_of_gt (Nat.lt_of_lt_of_le lt4 (Nat.le_of_eq hzO5))) bO1_0
  replace bO1_1 := ho.box (Nat.ne_of_gt (Nat.lt_of_lt_of_le lt4 (Nat.le_of_eq hzO5))) bO1_1
  have hs10 : X6.heap.size ≤ X9.heap.size := Nat.le_of_eq ho.size.symm
  clear ho hk bO5_0 bO5_1
  have bO5_0 := hv0; clear hv0
  have bO5_1 := hv1; clear hv1
  refine pl_nil ?_
  refine qw_then ?_
  refine cw_ret ?_
  refine qw_ret [.agg #[.slice (some ⟨A1, 0, none⟩) 24 k1, .slice (some ⟨A2, 0, none⟩) 24 k2]] rfl ⟨⟨_, by kernel_rfl, res_ld (ld43 (bO5_0.1) (bO5_1.1))⟩, trivial⟩ ?_
  exact ⟨rfl, hE⟩
set_option maxRecDepth 1000000 in
set_option maxHeartbeats 4000000 in
theorem both_c {A1 A2 B1 B2 k1 k2 q1 q2 : Nat} {L1 L2 M1 M2 : List Int} (w : World) (hA1 : RowsAt w A1 L1) (v1 : Globe.validL L1 = true) (hA2 : RowsAt w A2 L2) (v2 : Globe.validL L2 = true) (hB1 : VA w B1 0 M1) (hB2 : VA w B2 0 M2) (n12 : A1 ≠ A2) (m11 : A1 ≠ B1) (m12 : A1 ≠ B2) (m21 : A2 ≠ B1) (m22 : A2 ≠ B2) :
    Calls Tryd.prog 28 #[.agg #[.slice (some ⟨A1, 0, none⟩) 24 k1, .slice (some ⟨A2, 0, none⟩) 24 k2], .agg #[.slice (some ⟨B1, 0, none⟩) 24 q1, .slice (some ⟨B2, 0, none⟩) 24 q2]] w fun e w' => e = .returned (.agg #[.slice (some ⟨A1, 0, none⟩) 24 k1, .slice (some ⟨A2, 0, none⟩) 24 k2]) ∧ RowsAt w' A1 (Globe.meetL L1 M1) ∧ RowsAt w' A2 (Globe.unionL L2 M2) ∧ Wrote (fun k => k = A1 ∨ k = A2) w w' := by
  have hw9 : Wrote (fun k => k = A1 ∨ k = A2) w w := Wrote.refl _ _
  have lA1 : A1 < w.heap.size := World.block_lt_of_cell? _ _ (hA1.cell (i := 0) (by decide))
  have lA2 : A2 < w.heap.size := World.block_lt_of_cell? _ _ (hA2.cell (i := 0) (by decide))
  have lB1 := hB1.lt
  have lB2 := hB2.lt
  have Hn12 := Lib.hid n12
  have Hm11 := Lib.hid m11
  have Hm12 := Lib.hid m12
  have Hm21 := Lib.hid m21
  have Hm22 := Lib.hid m22
  refine calls_cw 43 [(1, .agg #[.slice (some ⟨B1, 0, none⟩) 24 q1, .slice (some ⟨B2, 0, none⟩) 24 q2]), (0, .agg #[.slice (some ⟨A1, 0, none⟩) 24 k1, .slice (some ⟨A2, 0, none⟩) 24 k2])] Tryd.func28 rfl Tryd.ntmps28 (by kernel_rfl) (by kernel_rfl) (fun L => ?_)
  have hE : Ext w w := Ext.refl w
  refine cw_seq ?_
  refine cw_plain ?_
  refine pl_step rfl (by kernel_rfl) (by kernel_rfl) (by kernel_rfl) (sn_new (us := #[.slice (some ⟨A1, 0, none⟩) 24 k1, .slice (some ⟨A2, 0, none⟩) 24 k2]) (t := 43) (by kernel_rfl) ?_)
  intro O1 X2 hO hOs hb hbx
  have hzO1 := hO; have hyO1 := hOs; clear hO hOs
  have bO1_0 : BoxAt X2 O1 0 (.slice (some ⟨A1, 0, none⟩) 24 k1) := hbx 0 _ rfl
  have bO1_1 : BoxAt X2 O1 1 (.slice (some ⟨A2, 0, none⟩) 24 k2) := hbx 1 _ rfl
  clear hbx
  replace hE := hE.trans hb
  replace hA1 := hA1.ext hb
  replace hA2 := hA2.ext hb
  replace hB1 := hB1.ext hb
  replace hB2 := hB2.ext hb
  replace hw9 := hw9.step hb
  have hs3 := hb.size
  clear hb
  have lt4 := bO1_0.lt
  refine pl_step rfl (by kernel_rfl) (by kernel_rfl) (by kernel_rfl) (sn_new (us := #[.slice (some ⟨B1, 0, none⟩) 24 q1, .slice (some ⟨B2, 0, none⟩) 24 q2]) (t := 43) (by kernel_rfl) ?_)
  intro O5 X6 hO hOs hb hbx
  have hzO5 := hO; have hyO5 := hOs; clear hO hOs
  have bO5_0 : BoxAt X6 O5 0 (.slice (some ⟨B1, 0, none⟩) 24 q1) := hbx 0 _ rfl
  have bO5_1 : BoxAt X6 O5 1 (.slice (some ⟨B2, 0, none⟩) 24 q2) := hbx 1 _ rfl
  clear hbx
  replace hE := hE.trans hb
  replace hA1 := hA1.ext hb
  replace hA2 := hA2.ext hb
  replace hB1 := hB1.ext hb
  replace hB2 := hB2.ext hb
  replace hw9 := hw9.step hb
  replace bO1_0 := BoxAt.ext hb bO1_0
  replace bO1_1 := BoxAt.ext hb bO1_1
  have hs7 := hb.size
  clear hb
  have lt8 := bO5_0.lt
  refine pl_step rfl (by kernel_rfl) (by kernel_rfl) (by kernel_rfl) (sn_new (us := #[.slice none 0 0, .slice none 0 0]) (t := 43) (by kernel_rfl) ?_)
  intro O9 X10 hO hOs hb hbx
  have hzO9 := hO; have hyO9 := hOs; clear hO hOs
  have bO9_0 : BoxAt X10 O9 0 (.slice none 0 0) := hbx 0 _ rfl
  have bO9_1 : BoxAt X10 O9 1 (.slice none 0 0) := hbx 1 _ rfl
  clear hbx
  replace hE := hE.trans hb
  replace hA1 := hA1.ext hb
  replace hA2 := hA2.ext hb
  replace hB1 := hB1.ext hb
  replace hB2 := hB2.ext hb
  replace hw9 := hw9.step hb
  replace bO1_0 := BoxAt.ext hb bO1_0
  replace bO1_1 := BoxAt.ext hb bO1_1
  replace bO5_0 := BoxAt.ext hb bO5_0
  replace bO5_1 := BoxAt.ext hb bO5_1
  have hs11 := hb.size
  clear hb
  have lt12 := bO9_0.lt
  refine pl_nil ?_
  refine qw_then ?_
  refine cw_seq ?_
  refine cw_seq ?_
  refine cw_plain ?_
  refine pl_take (.pointer (some ⟨O1, 0, none⟩)) rfl (by kernel_rfl) (by kernel_rfl) (by kernel_rfl) (by kernel_rfl) ?_
  refine pl_take (.pointer (some ⟨O1, 0, none⟩)) rfl (by kernel_rfl) (by kernel_rfl) (by kernel_rfl) (by kernel_rfl) ?_
  refine pl_take (.slice (some ⟨A1, 0, none⟩) 24 k1) rfl (by kernel_rfl) (by kernel_rfl) (by kernel_rfl) (ex_load rfl (by kernel_rfl) (ld37 (bO1_0.1))) ?_
  refine pl_take (.int .i64 24) rfl (by kernel_rfl) (by kernel_rfl) (by kernel_rfl) (by kernel_rfl) ?_
  refine pl_take (.int .i64 0) rfl (by kernel_rfl) (by kernel_rfl) (by kernel_rfl) (by kernel_rfl) ?_
  refine pl_nil ?_
  refine qw_then ?_
  refine cw_block ?_
  refine cw_loop [2, 3, 4, 9, 10] (fun ws' wr m => ∃ i : Nat, ws' = [(2, .pointer (some ⟨O1, 0, none⟩)), (3, .pointer (some ⟨O5, 0, none⟩)), (4, .pointer (some ⟨O9, 0, none⟩)), (9, .int .i64 24), (10, .int .i64 (((i : Nat) : Int) : Int))] ∧ m = 24 - i ∧ X10.heap.size ≤ wr.heap.size ∧ VA wr B1 0 M1 ∧ VA wr B2 0 M2 ∧ Wrote (fun k => k = A1 ∨ k = A2) w wr ∧ BoxAt wr O1 0 (.slice (some ⟨A1, 0, none⟩) 24 k1) ∧ BoxAt wr O1 1 (.slice (some ⟨A2, 0, none⟩) 24 k2) ∧ BoxAt wr O5 0 (.slice (some ⟨B1, 0, none⟩) 24 q1) ∧ BoxAt wr O5 1 (.slice (some ⟨B2, 0, none⟩) 24 q2) ∧ BoxAt wr O9 0 (.slice none 0 0) ∧ BoxAt wr O9 1 (.slice none 0 0) ∧ RowsAt wr A1 (Globe.mixL Globe.and8 L1 M1 i) ∧ RowsAt wr A2 (Globe.mixL Globe.or8 L2 M2 i) ∧ i ≤ 24) (ws0 := [(2, .pointer (some ⟨O1, 0, none⟩)), (3, .pointer (some ⟨O5, 0, none⟩)), (4, .pointer (some ⟨O9, 0, none⟩)), (9, .int .i64 24), (10, .int .i64 0)]) (by kernel_rfl) _ ⟨0, rfl, rfl, Nat.le_refl _, hB1, hB2, hw9, bO1_0, bO1_1, bO5_0, bO5_1, bO9_0, bO9_1, (by rw [Globe.mix_0 v1]; exact hA1), (by rw [Globe.mix_0 v2]; exact hA2), by omega⟩ ?_
  clear hA1 hA2 hB1 hB2 hw9 bO1_0 bO1_1 bO5_0 bO5_1 bO9_0 bO9_1
  rintro m15 L ws w14 ⟨i, rfl, rfl, hs13, hB1, hB2, hw9, bO1_0, bO1_1, bO5_0, bO5_1, bO9_0, bO9_1, hr1, hr2, hi⟩
  by_cases hlt : i < 24
  ·
    have hv1 := hr1.va (Globe.mix_valid Globe.and8_lt v1 hB1.2 i)
    have hl1 := Globe.rowN_lt hv1.2 i
    have hm1 := Globe.rowN_lt hB1.2 i
    have hv2 := hr2.va (Globe.mix_valid Globe.or8_lt v2 hB2.2 i)
    have hl2 := Globe.rowN_lt hv2.2 i
    have hm2 := Globe.rowN_lt hB2.2 i
    refine cw_seq ?_
    refine cw_plain ?_
    refine pl_take (.bool true) rfl (by kernel_rfl) (by kernel_rfl) (by kernel_rfl) (ev_dec (show _ = Result.ok (Next.value (Value.bool (decide ((((i : Nat) : Int) : Int) < (24 : Int))))) _ from by kernel_rfl) (by omega)) ?_
    refine pl_nil ?_
    refine qw_then ?_
    refine cw_seq ?_
    refine cw_t (by kernel_rfl) ?_
    refine cw_skip ?_
    refine qw_then ?_
    refine cw_seq ?_
    refine cw_block ?_
    refine cw_seq ?_
    refine cw_plain ?_
    refine pl_take (.int .i64 (((i : Nat) : Int) : Int)) rfl (by kernel_rfl) (by kernel_rfl) (by kernel_rfl) (by kernel_rfl) ?_
    refine pl_take (.int .i64 (((i : Nat) : Int) : Int)) rfl (by kernel_rfl) (by kernel_rfl) (by kernel_rfl) (by kernel_rfl) ?_
    refine pl_nil ?_
    refine qw_then ?_
    refine cw_seq ?_
    refine cw_draw [(some 13, [2], []), (some 14, [13], [0]), (some 15, [14], [1]), (some 16, [5], []), (some 17, [15, 16], [2, 3]), (some 18, [17], [4]), (some 19, [3], []), (some 20, [19], [6]), (some 21, [20], [7]), (some 22, [5], []), (some 23, [21, 22], [8, 9]), (some 24, [23], [10]), (some 25, [18, 24], [5, 11]), (some 26, [15, 16], [2, 3, 0, 1, 2, 3, 4, 5, 6, 7, 8, 9, 10, 11, 12]), (none, [26, 25], [13, 12, 0, 1, 2, 3, 4, 5, 6, 7, 8, 9, 10, 11, 12])] (fun w' => w'.cell? ⟨O1, 0, none⟩ = some (.slice (some ⟨A1, 0, none⟩) 24 k1) ∧ w'.cell? ⟨O5, 0, none⟩ = some (.slice (some ⟨B1, 0, none⟩) 24 q1) ∧ w'.cell? ⟨B1, i, none⟩ = some (.int .i64 (((Globe.rowN M1 i : Nat) : Int) : Int))) (by kernel_rfl) (by kernel_rfl) (by kernel_rfl) (by kernel_rfl) ((calm_then (calm_block (calm_then (calm_then (calm_block (calm_then calm_body))))))) (⟨bO1_0.1, bO5_0.1, hB1.cell0 (y := i) (by omega)⟩) (fun ops Q X16 hb hL hR hK => ?_)
    replace hB1 := hB1.ext hb
    replace hB2 := hB2.ext hb
    replace hw9 := hw9.step hb
    replace bO1_0 := BoxAt.ext hb bO1_0
    replace bO1_1 := BoxAt.ext hb bO1_1
    replace bO5_0 := BoxAt.ext hb bO5_0
    replace bO5_1 := BoxAt.ext hb bO5_1
    replace bO9_0 := BoxAt.ext hb bO9_0
    replace bO9_1 := BoxAt.ext hb bO9_1
    replace hr1 := hr1.ext hb
    replace hr2 := hr2.ext hb
    replace hv1 := hv1.ext hb
    replace hv2 := hv2.ext hb
    have hs17 := hb.size
    clear hb
    have hS18 := And.intro (bO1_0.1) (And.intro (bO5_0.1) (hB1.cell0 (y := i) (by omega)))
    refine wd_take 0 (.pointer (some ⟨O1, 0, none⟩)) hR rfl (by kernel_rfl) rfl (by kernel_rfl) (fun w _ => by kernel_rfl) (hS18) ?_
    refine wd_take 1 (.pointer (some ⟨O1, 0, none⟩)) hR rfl (by kernel_rfl) rfl (by kernel_rfl) (fun w _ => by kernel_rfl) (hS18) ?_
    refine wd_take 2 (.slice (some ⟨A1, 0, none⟩) 24 k1) hR rfl (by kernel_rfl) rfl (by kernel_rfl) (fun w hS => ex_load rfl (by kernel_rfl) (ld37 (hS.1))) (hS18) ?_
    refine wd_take 3 (.int .i64 (((i : Nat) : Int) : Int)) hR rfl (by kernel_rfl) rfl (by kernel_rfl) (fun w _ => by kernel_rfl) (hS18) ?_
    refine wd_take 4 (.pointer (some ⟨A1, i, none⟩)) hR rfl (by kernel_rfl) rfl (by kernel_rfl) (fun w _ => ex_index (p := .slice (some ⟨A1, 0, none⟩) 24 k1) (i := .int .i64 ((i : Nat) : Int)) rfl (by kernel_rfl) (by kernel_rfl) (ix37z (k := i) (by omega))) (hS18) ?_
    refine wd_take 6 (.pointer (some ⟨O5, 0, none⟩)) hR rfl (by kernel_rfl) rfl (by kernel_rfl) (fun w _ => by kernel_rfl) (hS18) ?_
    refine wd_take 7 (.pointer (some ⟨O5, 0, none⟩)) hR rfl (by kernel_rfl) rfl (by kernel_rfl) (fun w _ => by kernel_rfl) (hS18) ?_
    refine wd_take 8 (.slice (some ⟨B1, 0, none⟩) 24 q1) hR rfl (by kernel_rfl) rfl (by kernel_rfl) (fun w hS => ex_load rfl (by kernel_rfl) (ld37 (hS.2.1))) (hS18) ?_
    refine wd_take 9 (.int .i64 (((i : Nat) : Int) : Int)) hR rfl (by kernel_rfl) rfl (by kernel_rfl) (fun w _ => by kernel_rfl) (hS18) ?_
    refine wd_take 10 (.pointer (some ⟨B1, i, none⟩)) hR rfl (by kernel_rfl) rfl (by kernel_rfl) (fun w _ => ex_index (p := .slice (some ⟨B1, 0, none⟩) 24 q1) (i := .int .i64 ((i : Nat) : Int)) rfl (by kernel_rfl) (by kernel_rfl) (ix37z (k := i) (by omega))) (hS18) ?_
    refine wd_take 11 (.int .i64 (((Globe.rowN M1 i : Nat) : Int) : Int)) hR rfl (by kernel_rfl) rfl (by kernel_rfl) (fun w hS => ex_load rfl (by kernel_rfl) (ld3 (hS.2.2))) (hS18) ?_
    refine wd_step 5 hR rfl (by kernel_rfl) (by kernel_rfl) (by kernel_rfl) (sn_eff (v := .int .i64 (((Globe.rowN (Globe.mixL Globe.and8 L1 M1 i) i : Nat) : Int) : Int)) (w' := X16) (ex_load rfl (by kernel_rfl) (ld3 (hv1.cell0 (y := i) (by omega)))) ⟨hS18, ?_⟩)
    refine wd_take 12 (.int .i64 ((((Globe.rowN (Globe.mixL Globe.and8 L1 M1 i) i) &&& (Globe.rowN M1 i) : Nat) : Int) : Int)) hR rfl (by kernel_rfl) rfl (by kernel_rfl) (fun w _ => ev_int (show _ = Result.ok (Next.value (Value.int .i64 (bits .and .i64 ((Globe.rowN (Globe.mixL Globe.and8 L1 M1 i) i : Nat) : Int) ((Globe.rowN M1 i : Nat) : Int)))) _ from by kernel_rfl) (and_i64 _ _ (by omega) (by omega))) (hS18) ?_
    refine wd_take 13 (.pointer (some ⟨A1, i, none⟩)) hR rfl (by kernel_rfl) rfl (by kernel_rfl) (fun w _ => ex_index (p := .slice (some ⟨A1, 0, none⟩) 24 k1) (i := .int .i64 ((i : Nat) : Int)) rfl (by kernel_rfl) (by kernel_rfl) (ix37z (k := i) (by omega))) (hS18) ?_
    refine wd_step 14 hR rfl (by kernel_rfl) (by kernel_rfl) (by kernel_rfl) (sn_row (g := A1) (y := i) (v := (((Globe.rowN (Globe.mixL Globe.and8 L1 M1 i) i) &&& (Globe.rowN M1 i) : Nat) : Int)) (ex_store (p := .pointer (some ⟨A1, i, none⟩)) (v := .int .i64 ((((Globe.rowN (Globe.mixL Globe.and8 L1 M1 i) i) &&& (Globe.rowN M1 i) : Nat) : Int) : Int)) rfl (by kernel_rfl) (by kernel_rfl) (st3 (hr1.cell (by omega)) (hr1.free (by omega)))) hr1 (by omega) ?_)
    intro X19 ho hv0
    replace hB1 := ho.va Hm11.out hB1
    replace hB2 := ho.va Hm12.out hB2
    replace hw9 := hw9.turn ho (.inl (.inl rfl))
    replace bO1_0 := ho.box (Nat.ne_of_lt (Nat.lt_of_lt_of_le lA1 (Nat.le_of_eq hzO1))) bO1_0
    replace bO1_1 := ho.box (Nat.ne_of_lt (Nat.lt_of_lt_of_le lA1 (Nat.le_of_eq hzO1))) bO1_1
    replace bO5_0 := ho.box (Nat.ne_of_lt (Nat.lt_of_lt_of_le lA1 (Nat.le_trans hs3 (Nat.le_of_eq hzO5)))) bO5_0
    replace bO5_1 := ho.box (Nat.ne_of_lt (Nat.lt_of_lt_of_le lA1 (Nat.le_trans hs3 (Nat.le_of_eq hzO5)))) bO5_1
    replace bO9_0 := ho.box (Nat.ne_of_lt (Nat.lt_of_lt_of_le lA1 (Nat.le_trans (Nat.le_trans hs3 hs7) (Nat.le_of_eq hzO9)))) bO9_0
    replace bO9_1 := ho.box (Nat.ne_of_lt (Nat.lt_of_lt_of_le lA1 (Nat.le_trans (Nat.le_trans hs3 hs7) (Nat.le_of_eq hzO9)))) bO9_1
    replace hr2 := ho.rows Hn12.out hr2
    replace hv2 := ho.va Hn12.out hv2
    have hs20 : X16.heap.size ≤ X19.heap.size := Nat.le_of_eq ho.size.symm
    clear ho hr1; have hr1 := hv0; clear hv0
    have hS21 := And.intro (bO1_0.1) (And.intro (bO5_0.1) (hB1.cell0 (y := i) (by omega)))
    refine ⟨hS21, ?_⟩
    refine wd_end hL hR hK (by kernel_rfl) ?_
    refine qw_then ?_
    refine cw_clean [2, 3, 4, 5, 9, 10] (ws' := [(2, .pointer (some ⟨O1, 0, none⟩)), (3, .pointer (some ⟨O5, 0, none⟩)), (4, .pointer (some ⟨O9, 0, none⟩)), (5, .int .i64 (((i : Nat) : Int) : Int)), (9, .int .i64 24), (10, .int .i64 (((i : Nat) : Int) : Int))]) (by kernel_rfl) (fun L => ?_)
    refine cw_draw [(some 27, [2], []), (some 28, [27], [0]), (some 29, [28], [1]), (some 30, [5], []), (some 31, [29, 30], [2, 3]), (some 32, [31], [4]), (some 33, [3], []), (some 34, [33], [6]), (some 35, [34], [7]), (some 36, [5], []), (some 37, [35, 36], [8, 9]), (some 38, [37], [10]), (some 39, [32, 38], [5, 11]), (some 40, [29, 30], [2, 3, 0, 1, 2, 3, 4, 5, 6, 7, 8, 9, 10, 11, 12]), (none, [40, 39], [13, 12, 0, 1, 2, 3, 4, 5, 6, 7, 8, 9, 10, 11, 12])] (fun w' => w'.cell? ⟨O1, 1, none⟩ = some (.slice (some ⟨A2, 0, none⟩) 24 k2) ∧ w'.cell? ⟨O5, 1, none⟩ = some (.slice (some ⟨B2, 0, none⟩) 24 q2) ∧ w'.cell? ⟨B2, i, none⟩ = some (.int .i64 (((Globe.rowN M2 i : Nat) : Int) : Int))) (by kernel_rfl) (by kernel_rfl) (by kernel_rfl) (by kernel_rfl) ((calm_block (calm_then (calm_then (calm_block (calm_then calm_body)))))) (⟨bO1_1.1, bO5_1.1, hB2.cell0 (y := i) (by omega)⟩) (fun ops Q X22 hb hL hR hK => ?_)
    replace hB1 := hB1.ext hb
    replace hB2 := hB2.ext hb
    replace hw9 := hw9.step hb
    replace bO1_0 := BoxAt.ext hb bO1_0
    replace bO1_1 := BoxAt.ext hb bO1_1
    replace bO5_0 := BoxAt.ext hb bO5_0
    replace bO5_1 := BoxAt.ext hb bO5_1
    replace bO9_0 := BoxAt.ext hb bO9_0
    replace bO9_1 := BoxAt.ext hb bO9_1
    replace hr2 := hr2.ext hb
    replace hv2 := hv2.ext hb
    replace hr1 := hr1.ext hb
    have hs23 := hb.size
    clear hb
    have hS24 := And.intro (bO1_1.1) (And.intro (bO5_1.1) (hB2.cell0 (y := i) (by omega)))
    refine wd_take 0 (.pointer (some ⟨O1, 1, none⟩)) hR rfl (by kernel_rfl) rfl (by kernel_rfl) (fun w _ => by kernel_rfl) (hS24) ?_
    refine wd_take 1 (.pointer (some ⟨O1, 1, none⟩)) hR rfl (by kernel_rfl) rfl (by kernel_rfl) (fun w _ => by kernel_rfl) (hS24) ?_
    refine wd_take 2 (.slice (some ⟨A2, 0, none⟩) 24 k2) hR rfl (by kernel_rfl) rfl (by kernel_rfl) (fun w hS => ex_load rfl (by kernel_rfl) (ld37 (hS.1))) (hS24) ?_
    refine wd_take 3 (.int .i64 (((i : Nat) : Int) : Int)) hR rfl (by kernel_rfl) rfl (by kernel_rfl) (fun w _ => by kernel_rfl) (hS24) ?_
    refine wd_take 4 (.pointer (some ⟨A2, i, none⟩)) hR rfl (by kernel_rfl) rfl (by kernel_rfl) (fun w _ => ex_index (p := .slice (some ⟨A2, 0, none⟩) 24 k2) (i := .int .i64 ((i : Nat) : Int)) rfl (by kernel_rfl) (by kernel_rfl) (ix37z (k := i) (by omega))) (hS24) ?_
    refine wd_take 6 (.pointer (some ⟨O5, 1, none⟩)) hR rfl (by kernel_rfl) rfl (by kernel_rfl) (fun w _ => by kernel_rfl) (hS24) ?_
    refine wd_take 7 (.pointer (some ⟨O5, 1, none⟩)) hR rfl (by kernel_rfl) rfl (by kernel_rfl) (fun w _ => by kernel_rfl) (hS24) ?_
    refine wd_take 8 (.slice (some ⟨B2, 0, none⟩) 24 q2) hR rfl (by kernel_rfl) rfl (by kernel_rfl) (fun w hS => ex_load rfl (by kernel_rfl) (ld37 (hS.2.1))) (hS24) ?_
    refine wd_take 9 (.int .i64 (((i : Nat) : Int) : Int)) hR rfl (by kernel_rfl) rfl (by kernel_rfl) (fun w _ => by kernel_rfl) (hS24) ?_
    refine wd_take 10 (.pointer (some ⟨B2, i, none⟩)) hR rfl (by kernel_rfl) rfl (by kernel_rfl) (fun w _ => ex_index (p := .slice (some ⟨B2, 0, none⟩) 24 q2) (i := .int .i64 ((i : Nat) : Int)) rfl (by kernel_rfl) (by kernel_rfl) (ix37z (k := i) (by omega))) (hS24) ?_
    refine wd_take 11 (.int .i64 (((Globe.rowN M2 i : Nat) : Int) : Int)) hR rfl (by kernel_rfl) rfl (by kernel_rfl) (fun w hS => ex_load rfl (by kernel_rfl) (ld3 (hS.2.2))) (hS24) ?_
    refine wd_step 5 hR rfl (by kernel_rfl) (by kernel_rfl) (by kernel_rfl) (sn_eff (v := .int .i64 (((Globe.rowN (Globe.mixL Globe.or8 L2 M2 i) i : Nat) : Int) : Int)) (w' := X22) (ex_load rfl (by kernel_rfl) (ld3 (hv2.cell0 (y := i) (by omega)))) ⟨hS24, ?_⟩)
    refine wd_take 12 (.int .i64 ((((Globe.rowN (Globe.mixL Globe.or8 L2 M2 i) i) ||| (Globe.rowN M2 i) : Nat) : Int) : Int)) hR rfl (by kernel_rfl) rfl (by kernel_rfl) (fun w _ => ev_int (show _ = Result.ok (Next.value (Value.int .i64 (bits .or .i64 ((Globe.rowN (Globe.mixL Globe.or8 L2 M2 i) i : Nat) : Int) ((Globe.rowN M2 i : Nat) : Int)))) _ from by kernel_rfl) (or_i64 _ _ (by omega) (by omega))) (hS24) ?_
    refine wd_take 13 (.pointer (some ⟨A2, i, none⟩)) hR rfl (by kernel_rfl) rfl (by kernel_rfl) (fun w _ => ex_index (p := .slice (some ⟨A2, 0, none⟩) 24 k2) (i := .int .i64 ((i : Nat) : Int)) rfl (by kernel_rfl) (by kernel_rfl) (ix37z (k := i) (by omega))) (hS24) ?_
    refine wd_step 14 hR rfl (by kernel_rfl) (by kernel_rfl) (by kernel_rfl) (sn_row (g := A2) (y := i) (v := (((Globe.rowN (Globe.mixL Globe.or8 L2 M2 i) i) ||| (Globe.rowN M2 i) : Nat) : Int)) (ex_store (p := .pointer (some ⟨A2, i, none⟩)) (v := .int .i64 ((((Globe.rowN (Globe.mixL Globe.or8 L2 M2 i) i) ||| (Globe.rowN M2 i) : Nat) : Int) : Int)) rfl (by kernel_rfl) (by kernel_rfl) (st3 (hr2.cell (by omega)) (hr2.free (by omega)))) hr2 (by omega) ?_)
    intro X25 ho hv0
    replace hB1 := ho.va Hm21.out hB1
    replace hB2 := ho.va Hm22.out hB2
    replace hw9 := hw9.turn ho (.inl (.inr rfl))
    replace bO1_0 := ho.box (Nat.ne_of_lt (Nat.lt_of_lt_of_le lA2 (Nat.le_of_eq hzO1))) bO1_0
    replace bO1_1 := ho.box (Nat.ne_of_lt (Nat.lt_of_lt_of_le lA2 (Nat.le_of_eq hzO1))) bO1_1
    replace bO5_0 := ho.box (Nat.ne_of_lt (Nat.lt_of_lt_of_le lA2 (Nat.le_trans hs3 (Nat.le_of_eq hzO5)))) bO5_0
    replace bO5_1 := ho.box (Nat.ne_of_lt (Nat.lt_of_lt_of_le lA2 (Nat.le_trans hs3 (Nat.le_of_eq hzO5)))) bO5_1
    replace bO9_0 := ho.box (Nat.ne_of_lt (Nat.lt_of_lt_of_le lA2 (Nat.le_trans (Nat.le_trans hs3 hs7) (Nat.le_of_eq hzO9)))) bO9_0
    replace bO9_1 := ho.box (Nat.ne_of_lt (Nat.lt_of_lt_of_le lA2 (Nat.le_trans (Nat.le_trans hs3 hs7) (Nat.le_of_eq hzO9)))) bO9_1
    replace hr1 := ho.rows (Ne.symm Hn12.out) hr1
    have hs26 : X22.heap.size ≤ X25.heap.size := Nat.le_of_eq ho.size.symm
    clear ho hr2; have hr2 := hv0; clear hv0
    have hS27 := And.intro (bO1_1.1) (And.intro (bO5_1.1) (hB2.cell0 (y := i) (by omega)))
    refine ⟨hS27, ?_⟩
    refine wd_end hL hR hK (by kernel_rfl) ?_
    refine qw_block ?_
    refine qw_then ?_
    refine cw_clean [2, 3, 4, 9, 10] (ws' := [(2, .pointer (some ⟨O1, 0, none⟩)), (3, .pointer (some ⟨O5, 0, none⟩)), (4, .pointer (some ⟨O9, 0, none⟩)), (9, .int .i64 24), (10, .int .i64 (((i : Nat) : Int) : Int))]) (by kernel_rfl) (fun L => ?_)
    refine cw_plain ?_
    refine pl_take (.int .i64 (((i + 1 : Nat) : Int) : Int)) rfl (by kernel_rfl) (by kernel_rfl) (by kernel_rfl) (ev_wrap (by kernel_rfl) (by omega) (by omega)) ?_
    refine pl_take (.int .i64 (((i + 1 : Nat) : Int) : Int)) rfl (by kernel_rfl) (by kernel_rfl) (by kernel_rfl) (by kernel_rfl) ?_
    refine pl_nil ?_
    refine qw_round [2, 3, 4, 9, 10] (ws' := [(2, .pointer (some ⟨O1, 0, none⟩)), (3, .pointer (some ⟨O5, 0, none⟩)), (4, .pointer (some ⟨O9, 0, none⟩)), (9, .int .i64 24), (10, .int .i64 (((i + 1 : Nat) : Int) : Int))]) (by kernel_rfl) _ ?_ ⟨(i + 1), rfl, rfl, (Nat.le_trans hs13 (Nat.le_trans hs17 (Nat.le_trans hs20 (Nat.le_trans hs23 hs26)))), hB1, hB2, hw9, bO1_0, bO1_1, bO5_0, bO5_1, bO9_0, bO9_1, (by rw [← Globe.mix_succ hlt]; exact hr1), (by rw [← Globe.mix_succ hlt]; exact hr2), by omega⟩
    omega
  ·
    have hin : i = 24 := by omega
    refine cw_seq ?_
    refine cw_plain ?_
    refine pl_take (.bool false) rfl (by kernel_rfl) (by kernel_rfl) (by kernel_rfl) (ev_ndec (show _ = Result.ok (Next.value (Value.bool (decide ((((i : Nat) : Int) : Int) < (24 : Int))))) _ from by kernel_rfl) (by omega)) ?_
    refine pl_nil ?_
    refine qw_then ?_
    refine cw_seq ?_
    refine cw_f (by kernel_rfl) ?_
    refine cw_exit ?_
    refine qw_then_exit ?_
    refine qw_then_exit ?_
    refine qw_block_out ?_
    refine qw_then ?_
    refine cw_seq ?_
    refine cw_plain ?_
    refine pl_take (.agg #[.slice (some ⟨A1, 0, none⟩) 24 k1, .slice (some ⟨A2, 0, none⟩) 24 k2]) rfl (by kernel_rfl) (by kernel_rfl) (by kernel_rfl) (ex_load rfl (by kernel_rfl) (ld43 (bO1_0.1) (bO1_1.1))) ?_
    refine pl_put rfl (by kernel_rfl) (by kernel_rfl) (sn_set2 (O := O9) (j := 0) (v := .slice (some ⟨A1, 0, none⟩) 24 k1) (v' := .slice (some ⟨A2, 0, none⟩) 24 k2) (ex_store (p := .pointer (some ⟨O9, 0, none⟩)) (v := .agg #[.slice (some ⟨A1, 0, none⟩) 24 k1, .slice (some ⟨A2, 0, none⟩) 24 k2]) rfl (by kernel_rfl) (by kernel_rfl) (st43 bO9_0.1 bO9_0.2 bO9_1.1 bO9_1.2)) bO9_0 bO9_1 ?_)
    intro X28 ho hv0 hv1 hk
    replace hB1 := ho.va (Nat.ne_of_gt (Nat.lt_of_lt_of_le lB1 (Nat.le_trans (Nat.le_trans hs3 hs7) (Nat.le_of_eq hzO9)))) hB1
    replace hB2 := ho.va (Nat.ne_of_gt (Nat.lt_of_lt_of_le lB2 (Nat.le_trans (Nat.le_trans hs3 hs7) (Nat.le_of_eq hzO9)))) hB2
    replace hw9 := hw9.turn ho (.inr (Nat.le_trans (Nat.le_trans hs3 hs7) (Nat.le_of_eq hzO9)))
    replace bO1_0 := ho.box (Nat.ne_of_gt (Nat.lt_of_lt_of_le lt4 (Nat.le_trans hs7 (Nat.le_of_eq hzO9)))) bO1_0
    replace bO1_1 := ho.box (Nat.ne_of_gt (Nat.lt_of_lt_of_le lt4 (Nat.le_trans hs7 (Nat.le_of_eq hzO9)))) bO1_1
    replace bO5_0 := ho.box (Nat.ne_of_gt (Nat.lt_of_lt_of_le lt8 (Nat.le_of_eq hzO9))) bO5_0
    replace bO5_1 := ho.box (Nat.ne_of_gt (Nat.lt_of_lt_of_le lt8 (Nat.le_of_eq hzO9))) bO5_1
    replace hr1 := ho.rows (Nat.ne_of_gt (Nat.lt_of_lt_of_le lA1 (Nat.le_trans (Nat.le_trans hs3 hs7) (Nat.le_of_eq hzO9)))) hr1
    replace hr2 := ho.rows (Nat.ne_of_gt (Nat.lt_of_lt_of_le lA2 (Nat.le_trans (Nat.le_trans hs3 hs7) (Nat.le_of_eq hzO9)))) hr2
    have hs29 : w14.heap.size ≤ X28.heap.size := Nat.le_of_eq ho.size.symm
    clear ho hk bO9_0 bO9_1
    have bO9_0 := hv0; clear hv0
    have bO9_1 := hv1; clear hv1
    refine pl_nil ?_
    refine qw_then ?_
    refine cw_ret ?_
    refine qw_ret [.agg #[.slice (some ⟨A1, 0, none⟩) 24 k1, .slice (some ⟨A2, 0, none⟩) 24 k2]] rfl ⟨⟨_, by kernel_rfl, res_ld (ld43 (bO9_0.1) (bO9_1.1))⟩, trivial⟩ ?_
    exact ⟨rfl, by rw [hin, Globe.mix_24] at hr1; exact hr1, by rw [hin, Globe.mix_24] at hr2; exact hr2, hw9⟩

end Go.Proofs.YtdjjkhefdalokaaDoor
