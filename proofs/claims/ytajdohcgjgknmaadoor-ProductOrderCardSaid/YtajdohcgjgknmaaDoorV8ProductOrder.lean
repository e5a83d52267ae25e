/- The statement ProductOrder: for every input that the row lists, the law returns true, and every argument reads as it read before. -/
import Derived.Test.YtajdohcgjgknmaaDoorV7ProductOrder
import Derived.Deep.Slices
/- The opener: rows of four ints in memory. -/
namespace Go.Proofs.YtajdohcgjgknmaaDoor
open Go.ChangeShapes Go.WideShapes Go.ChangeAt Go.RowKit Go.Deep

section
variable {H : Type} {enc : TypeId × Value → H} {W : World}
/-- An array of ints (each one cell): what it reads. -/
theorem ints_of_array {spare : Nat → Bool} {held : Bool} {t : TypeId} {k fuel : Nat} {cs : List Value} {x : DataW H × List MemPlace} (ht : Tryd.prog.underlying t = some (.array k 3)) (h : DataW.trod enc Tryd.prog W 0 spare held fuel t cs = some x) (hc : cs.length = k) :
  ∃ q : Nat → Int, ∀ j, j < k → cs[j]? = some (.int .i64 (q j)) ∧ IsI (q j) := by
 obtain ⟨xs, m, rfl, hx, hlen, hxl, hg⟩ := DataW.trod_array ht h
 have hone : Tryd.prog.cellsOf 3 = 1 := by kernel_rfl
 have each : ∀ j, j < k → ∃ n : Int, cs[j]? = some (.int .i64 n) ∧ IsI n := fun j hj => by
  have h1 := hg j hj
  rw [hone, Nat.mul_one] at h1
  have hx : xs[j]? = some (xs[j]'(by omega)) := List.getElem?_eq_getElem (by omega)
  rw [hx] at h1
  obtain ⟨n, hn, _, hw⟩ := DataW.trod_int Tryd.underlying3 h1
  have hcj : cs[j]? = some (.int .i64 n) := by
   have e : ((cs.drop j).take 1)[0]? = some (.int .i64 n) := by rw [hn]; rfl
   rw [List.getElem?_take_of_lt (by omega), List.getElem?_drop, Nat.add_zero] at e
   exact e
  exact ⟨n, hcj, isI_of_wf hw⟩
 obtain ⟨q, hq⟩ := choose_lt each
 exact ⟨q, hq⟩

end


def Quads (w : World) (v : Value) : Prop := ∃ (a : Option Addr) (n c : Nat) (q : Nat → Nat → Int), v = .slice a n c ∧ n ≤ c ∧ c ≤ 9223372036854775807 ∧ (a = none → c = 0) ∧ QAt w a n q

section
variable {H : Type} {enc : TypeId × Value → H} {W : World}
set_option maxRecDepth 100000 in
theorem open_quads {b0 : Nat} {v : Value} {d : DataW H} {p : List MemPlace} (hval : Value.okWide Tryd.prog W .any b0 22 v) (h : DataW.Trod enc Tryd.prog W 0 (fun _ => true) true 22 v d p) : Quads W v := by
  obtain ⟨a, n, c, rfl⟩ := okWide_slice Tryd.underlying22 hval
  obtain ⟨fuel, hf⟩ := h
  rcases open_slice Tryd.underlying22 hf with ⟨hcs, _⟩ | ⟨a', len, cap, m, k, D, Pl, hcs, hb, hl, hm, hmm, _, hx⟩
  · simp [Value.cells] at hcs
    obtain ⟨rfl, rfl, rfl⟩ := hcs
    exact ⟨none, 0, 0, fun _ _ => 0, rfl, by omega, by omega, fun _ => rfl, .inl rfl⟩
  · simp [Value.cells] at hcs
    obtain ⟨rfl, rfl, rfl⟩ := hcs
    unfold maxLen at hm
    rcases Nat.eq_zero_or_pos n with h0 | h0
    · exact ⟨_, _, _, fun _ _ => 0, rfl, by omega, by omega, (fun e => by cases e), .inl h0⟩
    · have h4 : Tryd.prog.cellsOf 60 = 4 := by kernel_rfl
      rw [h4] at hx
      simp only [if_true] at hmm
      subst hmm
      have each : ∀ i, i < n → ∃ q : Nat → Int, ∀ j, j < 4 → W.cell? (a'.add (i * 4 + j)) = some (.int .i64 (q j)) ∧ IsI (q j) := fun i hi => by
        obtain ⟨cs', hc1, hc2⟩ := hx i (by omega)
        obtain ⟨_, hcl, hat⟩ := World.cells?_some hc1
        obtain ⟨q, hq⟩ := ints_of_array Tryd.underlying60 hc2 hcl
        refine ⟨q, fun j hj => ⟨?_, (hq j hj).2⟩⟩
        rw [← Go.Deep.add_add, hat j hj]
        exact (hq j hj).1
      obtain ⟨q, hq⟩ := choose_lt each
      obtain ⟨b, off, spot⟩ := a'
      have hspot : spot = none := by have := World.cell?_spot (hq 0 h0 0 (by omega)).1; simpa [Addr.add] using this
      subst hspot
      refine ⟨_, _, _, q, rfl, by omega, by omega, (fun e => by cases e), .inr ⟨b, off, rfl, fun i hi j hj => ?_⟩⟩
      have := hq i hi j hj
      rw [add_plain, ← Nat.add_assoc] at this
      exact this
end

end Go.Proofs.YtajdohcgjgknmaaDoor

/- What the laws of chapter 31 share: lists of pieces that are cut and joined. -/
namespace Go.Proofs.YtajdohcgjgknmaaDoor
open Go.RowKit
theorem RawsAt.take {w : World} {a : Option Addr} {n : Nat} {rs : List RawPc} (h : RawsAt w a n rs) {k : Nat} (hk : k ≤ n) : RawsAt w a k (rs.take k) := by
  obtain ⟨h1, h2, h3⟩ := h
  refine ⟨by rw [List.length_take]; omega, by omega, ?_⟩
  rcases h3 with h3 | ⟨b, o, ha, hx⟩
  · exact .inl (by omega)
  · refine .inr ⟨b, o, ha, fun i x hi => hx i x ?_⟩
    rw [List.getElem?_take] at hi
    split at hi
    · exact hi
    · cases hi
theorem RawsAt.drop {w : World} {a : Option Addr} {n : Nat} {rs : List RawPc} (h : RawsAt w a n rs) {k c : Nat} (hk : k ≤ n) (hc : n ≤ c) : RawsAt w (if c = k then a else a.map (fun x => x.add (k * 4))) (n - k) (rs.drop k) := by
  obtain ⟨h1, h2, h3⟩ := h
  refine ⟨by rw [List.length_drop, h1], by omega, ?_⟩
  by_cases h0 : n = k
  · exact .inl (by omega)
  · rcases h3 with h3 | ⟨b, o, rfl, hx⟩
    · exact .inl (by omega)
    · rw [if_neg (by omega)]
      refine .inr ⟨b, o + k * 4, by rw [Option.map_some, Addr.add_mid], fun i x hi => ?_⟩
      rw [List.getElem?_drop] at hi
      have := hx (k + i) x hi
      rwa [show o + (k + i) * 4 = o + k * 4 + i * 4 by rw [Nat.add_mul]; omega] at this
theorem Reads.take {w : World} {rs : List RawPc} {l : List Prod.Pc} (h : Reads w rs l) (k : Nat) : Reads w (rs.take k) (l.take k) := by
  have e := h.len
  refine Reads.of_at (by rw [List.length_take, List.length_take, e]) fun i x p hx hp => ?_
  rw [List.getElem?_take] at hx hp
  split at hx
  · rename_i hi
    rw [if_pos hi] at hp
    obtain ⟨q, hq, hr⟩ := h.at hx
    rw [hp] at hq; cases hq; exact hr
  · cases hx
theorem Reads.drop {w : World} {rs : List RawPc} {l : List Prod.Pc} (h : Reads w rs l) (k : Nat) : Reads w (rs.drop k) (l.drop k) := by
 have e := h.len
 refine Reads.of_at (by rw [List.length_drop, List.length_drop, e]) fun i x p hx hp => ?_
 rw [List.getElem?_drop] at hx hp
 obtain ⟨q, hq, hr⟩ := h.at hx
 rw [hp] at hq; cases hq; exact hr
/-- A slice from k on. -/
theorem PcsAt.drop {w : World} {a : Option Addr} {n : Nat} {l : List Prod.Pc} (h : PcsAt w a n l) {k c : Nat} (hk : k ≤ n) (hc : n ≤ c) : PcsAt w (if c = k then a else a.map (fun x => x.add (k * 4))) (n - k) (l.drop k) := by
 obtain ⟨rs, h1, h2⟩ := h; exact ⟨_, h1.drop hk hc, h2.drop k⟩
theorem raws_own {n₀ e g n cap : Nat} {w : World} {rs : List RawPc} (h : OwnL rawR n₀ e 4 (.slice (some ⟨g, 0, none⟩) n cap) w rs) (hl : rs.length = n) (hn : n ≤ 1000) : RawsAt w (some ⟨g, 0, none⟩) n rs := by
 have := holds_raws (own_holds h hl) (by omega)
 rwa [hl] at this
/-- Appending pieces that lie anywhere to a list of one's own. -/
theorem app_raws {n₀ : Nat} {w : World} {l xs : List RawPc} {g0 k cap0 m c : Nat} {a : Option Addr} (h : OwnL rawR n₀ 41 4 (.slice (some ⟨g0, 0, none⟩) k cap0) w l) (hn : n₀ ≤ w.heap.size) (hl : l.length = k) (hk : k ≤ cap0) (hx : RawsAt w a m xs) (hb : k + m ≤ 1000) :
    ∃ g cap w', (Builtin.append_ #[28, 28] 28 #[.slice (some ⟨g0, 0, none⟩) k cap0, .slice a m c]).run Tryd.prog w = .ok (.slice (some ⟨g, 0, none⟩) (k + m) cap) w' ∧ OwnL rawR n₀ 41 4 (.slice (some ⟨g, 0, none⟩) (k + m) cap) w' (l ++ xs) ∧ Grew n₀ w w' ∧ w.grownBy w' (some g0) ∧ k + m ≤ cap ∧ (g = g0 ∨ w.heap.size ≤ g) := by
  obtain ⟨h1, h2, h3⟩ := hx
  rcases Nat.eq_zero_or_pos m with h0 | h0
  · subst h0
    obtain rfl := List.eq_nil_of_length_eq_zero h1
    refine ⟨g0, cap0, w, app_none pieceT hk, by rw [List.append_nil]; exact h, ⟨Nat.le_refl _, fun U hU _ => hU⟩, ⟨rfl, rfl, rfl, Nat.le_refl _, fun _ _ _ => rfl⟩, hk, .inl rfl⟩
  · rcases h3 with h3 | ⟨b, o, rfl, hx⟩
    · omega
    subst hl
    obtain ⟨cs, q2, q3, q4, q5⟩ := h
    obtain ⟨i, hi, hz0, hz1, hz2⟩ := info_parts (pieceT).info
    have hds : ∀ d ∈ xs.map RawPc.enc, d.length = 4 := fun d hd => by obtain ⟨x, _, rfl⟩ := List.mem_map.1 hd; rfl
    have hone : ∀ u ∈ (xs.map RawPc.enc).flatten, u.oneCell' = true := fun u hu => by
      obtain ⟨d, hd, hu⟩ := List.mem_flatten.1 hu
      obtain ⟨x, _, rfl⟩ := List.mem_map.1 hd
      exact enc_one x u hu
    obtain ⟨v', w', hrun, hown, hg, hiff, hat⟩ := run_append_own_at (P := Tryd.prog) w n₀ 28 28 41 i _ 4 48 (pieceT).under hi hz0 hz1 hz2 (pieceT).zs (pieceT).pos _ l.length cs.flatten q4 ⟨b, o, none⟩ m c (xs.map RawPc.enc).flatten (by rw [flatten_len hds, List.length_map, h1]) (raws_flat hx) hone (by unfold maxLen; omega) (by omega) hn
    rcases hown.2 with ⟨q, _⟩ | ⟨g, cap, cur, q, _, _, hc9, _⟩
    · have := (hiff.1 q).2; omega
    · subst q
      refine ⟨g, cap, w', hrun, ⟨cs ++ xs.map RawPc.enc, by simp [q2], ?_, by rw [List.flatten_append, List.length_append, h1]; exact hown, ?_⟩, ⟨hg.size, fun U hU hUn => Ext.own' hU q4 hUn hg⟩, hg, hc9, ?_⟩
      · intro d hd
        rcases List.mem_append.1 hd with hd | hd
        · exact q3 d hd
        · exact hds d hd
      · intro j x d hx' hd
        rcases Nat.lt_or_ge j l.length with hj | hj
        · rw [List.getElem?_append_left hj] at hx'
          rw [List.getElem?_append_left (by rw [q2]; exact hj)] at hd
          obtain ⟨F, ⟨k1, k2⟩, _⟩ := q5 j x d hx' hd
          exact ⟨[], ⟨k1, rfl⟩, fun b hb => by cases hb⟩
        · rw [List.getElem?_append_right hj] at hx'
          rw [List.getElem?_append_right (by rw [q2]; exact hj), q2, List.getElem?_map, hx'] at hd
          cases hd
          exact ⟨[], ⟨rfl, rfl⟩, fun b hb => by cases hb⟩
      · rcases hat with e1 | e1
        · exact .inl (Option.some.inj e1)
        · exact .inr (Nat.le_of_eq (Option.some.inj e1).symm)
end Go.Proofs.YtajdohcgjgknmaaDoor

/- The walk of the law ProductOrder. -/
namespace Go.Proofs.YtajdohcgjgknmaaDoor
open Go.RowKit Go.Shelf

set_option maxRecDepth 1000000 in
set_option maxHeartbeats 4000000 in
theorem ProductOrder_walk (w : World) (v0 : Value) (o0 : Quads w v0) (v1 : Value) (o1 : Quads w v1) (i2 : Int) (hi2 : IsI i2) (hT : Tab w) :
  Calls Tryd.prog 4 #[v0, v1, .int .i64 i2] w fun e w' => e = .returned (.bool true) ∧ Ext w w' := by
 obtain ⟨a0, n0, c0, q0, rfl, hnc0, hcm0, hz0, Q0⟩ := o0
 obtain ⟨a1, n1, c1, q1, rfl, hnc1, hcm1, hz1, Q1⟩ := o1
 refine calls_cw 56 [(2, .int .i64 i2), (1, .slice a1 n1 c1), (0, .slice a0 n0 c0)] Tryd.func4 rfl Tryd.ntmps4 (by kernel_rfl) (by kernel_rfl) (fun L => ?_)
 have hE : Ext w w := Ext.refl w
 refine cw_seq ?_; refine cw_plain ?_; refine pT (.bool false) ?_; refine pl_nil ?_; refine qw_then ?_; refine cw_seq ?_; refine cw_seq ?_; refine cw_plain ?_
 refine pS (sn_call (f := 8) (args := #[]) (by kernel_rfl) ((sane_c _ (hT.ext (Ext.refl _))).mono ?_))
 rintro e w1 ⟨rfl, hb⟩
 replace hE := hE.trans hb; have hs2 := hb.size; clear hb
 refine ⟨_, rfl, ?_⟩
 refine pT (.bool false) ?_; refine pl_nil ?_; refine qw_then ?_
 refine cw_f (by kernel_rfl) ?_
 refine cw_skip ?_
 refine qw_then ?_; refine cw_seq ?_; refine cw_plain ?_; refine pT (.slice a0 n0 c0) ?_
 refine pS (sn_call (f := 9) (args := #[.slice a0 n0 c0]) (by kernel_rfl) ((Area_c _ _ Q0 hE (by omega)).mono ?_))
 rintro e w6 ⟨B3, ar, rfl, hn4, hva, hr5, hb⟩
 replace hE := hE.trans hb; have hs7 := hb.size; clear hb
 have hr5v := hr5.va hva
 have lt8 := hr5v.lt
 refine ⟨_, rfl, ?_⟩
 refine pS (sn_new (us := #[.slice none 0 0]) (t := 26) (by kernel_rfl) ?_)
 intro O9 X10 hzO9 hyO9 hb hbx; have bO9_0 := bx1 hbx; clear hbx
 replace hE := hE.trans hb; replace hr5v := hr5v.ext hb; have hs11 := hb.size; clear hb; have lt12 := bO9_0.lt
 refine pP (sn_set (O := O9) (j := 0) (v := .slice (some ⟨B3, 0, none⟩) 24 24) (ex_store (p := .pointer (some ⟨O9, 0, none⟩)) (v := .agg #[.slice (some ⟨B3, 0, none⟩) 24 24]) rfl (by kernel_rfl) (by kernel_rfl) (st26 bO9_0.1 bO9_0.2)) bO9_0 ?_)
 intro X13 ho hv0 hk; replace hE := ho.ext hE (T (T hs2 hs7) (Nat.le_of_eq hzO9)); replace hr5v := ho.va (Nat.ne_of_gt (Nat.lt_of_lt_of_le lt8 (Nat.le_of_eq hzO9))) hr5v; have hs14 : X10.heap.size ≤ X13.heap.size := Nat.le_of_eq ho.size.symm; clear ho hk bO9_0; have bO9_0 := hv0; clear hv0; refine pl_nil ?_; refine qw_then ?_; refine cw_seq ?_; refine cw_plain ?_; refine pT (.slice a1 n1 c1) ?_
 refine pS (sn_call (f := 10) (args := #[.slice a1 n1 c1]) (by kernel_rfl) ((Pieces_c _ Q1 hE (by omega) (by omega)).mono ?_))
 rintro e w15 ⟨a, k, c, ps, rfl, ho, hl, hkc, hg, hb⟩
 replace hE := hE.trans hb; replace hr5v := hr5v.ext hb; replace bO9_0 := BoxAt.ext hb bO9_0; have hs16 := hb.size; clear hb
 have hP := ho.weaken.pcs hl (by have := hg.1; omega)
 have hk8 : k ≤ 8 := by have := hg.1; omega
 have hgl := hg.good
 obtain ⟨rs, hRw, hrd⟩ := id hP
 clear ho; have hX17 : Ext w15 w15 := Ext.refl _
 refine ⟨_, rfl, ?_⟩
 refine pT (.slice a k c) ?_; refine pl_nil ?_; refine qw_then ?_; refine cw_seq ?_; refine cw_plain ?_; refine pT (.int .i64 i2) ?_; refine pT (.slice a k c) ?_; refine pT (.int .i64 (((k : Nat) : Int) : Int)) ?_
 refine pU (.int .i64 (((k + 1 : Nat) : Int) : Int)) (ev_wrap (by kernel_rfl) (by omega) (by omega)) ?_
 refine pS (sn_call (f := 19) (args := #[.int .i64 i2, .int .i64 (((k + 1 : Nat) : Int) : Int)]) (by kernel_rfl) ((pick31N_c _ (k + 1) _ hi2 (by omega) (by omega)).mono ?_))
 rintro e w' ⟨kk, rfl, hkl, hkp, rfl⟩
 refine ⟨_, rfl, ?_⟩
 refine pT (.int .i64 (((kk : Nat) : Int) : Int)) ?_; refine pl_nil ?_; refine qw_then ?_; refine cC3 7 8 9 (fun L => ?_); refine cw_seq ?_; refine cw_plain ?_
 refine pU (.agg #[.slice (some ⟨B3, 0, none⟩) 24 24]) (ex_load rfl (by kernel_rfl) (ld26 (bO9_0.1))) ?_
 refine pT (.slice a k c) ?_
 refine pS (sn_call (f := 11) (args := #[.int .i64 1, .agg #[.slice (some ⟨B3, 0, none⟩) 24 24], .slice a k c]) (by kernel_rfl) (((Build_c (id := 1) (l := ps) _ _ (by omega) (aa_q (hr5v.aa)) (Ext.refl _) hP (Ext.refl _) (hT.ext hE)).mono fun _ _ h => h.eq (Prod.build_ok (by omega) hva (hgl) (by rw [hl]; omega)) rfl rfl).mono ?_))
 rintro e w32 ⟨a18, n19, k20, a21, n22, c23, rfl, hA24, hfr25, hP26, hnc27, hpl28, hb⟩
 replace hE := hE.trans hb; replace hX17 := hX17.trans hb; replace hr5v := hr5v.ext hb; replace bO9_0 := BoxAt.ext hb bO9_0; have hs33 := hb.size; clear hb
 obtain ⟨b29, o30, rfl, rfl, hV31⟩ := va_of hA24 (hva)
 have hfr25l := hfr25 _ rfl
 have lt34 := hV31.lt
 have hP26n : PcsS (fun k => w15.heap.size ≤ k ∧ k < w32.heap.size) w32 a21 n22 (Prod.divide ar ps) := PcsS.both hP26
 refine ⟨_, rfl, ?_⟩
 refine pT (.tuple #[.agg #[.int .i64 1, .int .i64 1, .slice (some ⟨b29, o30, none⟩) 24 k20, .slice a21 n22 c23], .int .i64 0]) ?_; refine pT (.agg #[.int .i64 1, .int .i64 1, .slice (some ⟨b29, o30, none⟩) 24 k20, .slice a21 n22 c23]) ?_; refine pT (.int .i64 0) ?_
 refine pS (sn_new (us := #[.int .i64 0, .int .i64 0, .slice none 0 0, .slice none 0 0]) (t := 31) (by kernel_rfl) ?_)
 intro O35 X36 hzO35 hyO35 hb hbx; have ⟨bO35_0, bO35_1, bO35_2, bO35_3⟩ := bx4 hbx; clear hbx
 replace hE := hE.trans hb; replace hX17 := hX17.trans hb; replace hr5v := hr5v.ext hb; replace bO9_0 := BoxAt.ext hb bO9_0; replace hV31 := hV31.ext hb; replace hP26n := hP26n.ext hb; have hs37 := hb.size; clear hb; have lt38 := bO35_0.lt
 refine pP (sn_setK4 (O := O35) (j := 0) (v0 := .int .i64 1) (v1 := .int .i64 1) (v2 := .slice (some ⟨b29, o30, none⟩) 24 k20) (v3 := .slice a21 n22 c23) (ex_store (p := .pointer (some ⟨O35, 0, none⟩)) (v := .agg #[.int .i64 1, .int .i64 1, .slice (some ⟨b29, o30, none⟩) 24 k20, .slice a21 n22 c23]) rfl (by kernel_rfl) (by kernel_rfl) (st31 bO35_0.1 bO35_0.2 bO35_1.1 bO35_1.2 bO35_2.1 bO35_2.2 bO35_3.1 bO35_3.2)) bO35_0 bO35_1 bO35_2 bO35_3 ?_)
 intro X39 ho hv0 hv1 hv2 hv3 hk; replace hE := ho.ext hE (T (T hs2 (T hs7 (T hs11 (T hs14 (T hs16 hs33))))) (Nat.le_of_eq hzO35)); replace hX17 := ho.ext hX17 (T hs33 (Nat.le_of_eq hzO35)); replace hr5v := ho.va (Nat.ne_of_gt (Nat.lt_of_lt_of_le lt8 (T (T hs11 (T hs14 (T hs16 hs33))) (Nat.le_of_eq hzO35)))) hr5v; replace bO9_0 := ho.box (Nat.ne_of_gt (Nat.lt_of_lt_of_le lt12 (T (T hs14 (T hs16 hs33)) (Nat.le_of_eq hzO35)))) bO9_0; replace hV31 := ho.va (Nat.ne_of_gt (Nat.lt_of_lt_of_le lt34 (Nat.le_of_eq hzO35))) hV31; replace hP26n := hP26n.turn ho (fun h => absurd h.2 (Nat.not_lt_of_le (Nat.le_of_eq hzO35))); have hs40 : X36.heap.size ≤ X39.heap.size := Nat.le_of_eq ho.size.symm; clear ho hk bO35_0 bO35_1 bO35_2 bO35_3; have bO35_0 := hv0; clear hv0; have bO35_1 := hv1; clear hv1; have bO35_2 := hv2; clear hv2; have bO35_3 := hv3; clear hv3; refine pT (.int .i64 0) ?_; refine pl_nil ?_; refine qw_then ?_; refine cw_seq ?_
 have hPx41 := PcsS.pcs hP26n
 have hX42 : Ext X39 X39 := Ext.refl _
 refine cw_join (fun ws' Y => ∃ O45 : Nat, ∃ b94 : Nat, ∃ o95 : Nat, ∃ k85 : Nat, ∃ a86 : Option Addr, ∃ n87 : Nat, ∃ c88 : Nat, ∃ O100 : Nat, ws' = [(10, .pointer (some ⟨O35, 0, none⟩)), (11, .int .i64 0), (12, .pointer (some ⟨O100, 0, none⟩)), (13, .int .i64 0)] ∧ Ext w Y ∧ Ext w15 Y ∧ Ext X39 Y ∧ VA Y B3 0 ar ∧ BoxAt Y O9 0 (.slice (some ⟨B3, 0, none⟩) 24 24) ∧ VA Y b29 o30 ar ∧ BoxAt Y O35 0 (.int .i64 1) ∧ BoxAt Y O35 1 (.int .i64 1) ∧ BoxAt Y O35 2 (.slice (some ⟨b29, o30, none⟩) 24 k20) ∧ BoxAt Y O35 3 (.slice a21 n22 c23) ∧ n87 ≤ c88 ∧ Pl a86 ∧ VA Y b94 o95 ar ∧ PcsAt Y a86 n87 (Prod.divide ar (ps.drop kk ++ ps.take kk)) ∧ BoxAt Y O100 0 (.int .i64 1) ∧ BoxAt Y O100 1 (.int .i64 1) ∧ BoxAt Y O100 2 (.slice (some ⟨b94, o95, none⟩) 24 k85) ∧ BoxAt Y O100 3 (.slice a86 n87 c88) ∧ X39.heap.size ≤ Y.heap.size ∧ X39.heap.size ≤ b94 ∧ X39.heap.size ≤ O100 ∧ Hid (b94 ≠ O100)) (fun hJ => ?_) ?_
 ·
  refine cw_draw [(some 32, [7], []), (some 33, [], []), (some 34, [8], []), (some 35, [9], []), (some 36, [34, 35], [2, 3]), (some 37, [33, 36], [1, 4]), (some 38, [8], []), (some 39, [9], []), (some 40, [38, 39], [6, 7]), (some 41, [37, 40], [5, 8, 5]), (some 42, [32, 41], [0, 9, 9]), (some 31, [42], [10]), (some 43, [31], [11]), (some 44, [31], [11]), (some 12, [], []), (none, [12, 43], [14, 12, 10, 0, 1, 2, 3, 4, 5, 6, 7, 8, 9, 10, 11, 12, 14]), (some 13, [44], [13, 15, 0, 1, 2, 3, 4, 5, 6, 7, 8, 9, 10, 11, 12, 13, 14, 15])] (fun w' => w'.cell? ⟨O9, 0, none⟩ = some (.slice (some ⟨B3, 0, none⟩) 24 24)) (by kernel_rfl) (by kernel_rfl) (by kernel_rfl) (by kernel_rfl) ((calm_then calm_body)) (bO9_0.1) (fun ops Q X43 hb hL hR hK => ?_)
  replace hE := hE.trans hb; replace hX17 := hX17.trans hb; replace hX42 := hX42.trans hb; replace hr5v := hr5v.ext hb; replace bO9_0 := BoxAt.ext hb bO9_0; replace hV31 := hV31.ext hb; replace bO35_0 := BoxAt.ext hb bO35_0; replace bO35_1 := BoxAt.ext hb bO35_1; replace bO35_2 := BoxAt.ext hb bO35_2; replace bO35_3 := BoxAt.ext hb bO35_3; have hs44 := hb.size; clear hb
  refine wT 0 (.agg #[.slice (some ⟨B3, 0, none⟩) 24 24]) hR (fun w hS => ex_load rfl (by kernel_rfl) (ld26 (hS))) (bO9_0.1) ?_
  refine wT 2 (.slice a k c) hR (fun w _ => by kernel_rfl) (bO9_0.1) ?_
  refine wT 3 (.int .i64 (((kk : Nat) : Int) : Int)) hR (fun w _ => by kernel_rfl) (bO9_0.1) ?_
  refine wT 4 (.slice (if c = kk then a else a.map (fun x => x.add (kk * 4))) (k - kk) (c - kk)) hR (fun w _ => ex_slice (p := .slice a k c) rfl (by kernel_rfl) (by kernel_rfl) (by kernel_rfl) (by kernel_rfl) (sl28_100b (k := kk) (by omega) (by omega))) (bO9_0.1) ?_
  refine wT 6 (.slice a k c) hR (fun w _ => by kernel_rfl) (bO9_0.1) ?_
  refine wT 7 (.int .i64 (((kk : Nat) : Int) : Int)) hR (fun w _ => by kernel_rfl) (bO9_0.1) ?_
  refine wT 8 (.slice a kk c) hR (fun w _ => ex_slice (p := .slice a k c) rfl (by kernel_rfl) (by kernel_rfl) (by kernel_rfl) (by kernel_rfl) (sl28_010a (m := kk) (by omega) (by omega))) (bO9_0.1) ?_
  refine wd_two 1 14 hR rfl rfl (by kernel_rfl) (by kernel_rfl) (by kernel_rfl) (by kernel_rfl) ?_ ?_
  ·
   refine sn_newS0 (t := 41) (by kernel_rfl) ?_
   intro O45 X46 hO hOs hb hpO45
   have hzO45 := hO; have hyO45 : O45 < X46.heap.size := (by omega); clear hO hOs
   replace hE := hE.trans hb; replace hX17 := hX17.trans hb; replace hX42 := hX42.trans hb; replace hr5v := hr5v.ext hb; replace bO9_0 := BoxAt.ext hb bO9_0; replace hV31 := hV31.ext hb; replace bO35_0 := BoxAt.ext hb bO35_0; replace bO35_1 := BoxAt.ext hb bO35_1; replace bO35_2 := BoxAt.ext hb bO35_2; replace bO35_3 := BoxAt.ext hb bO35_3; have hs47 := hb.size; clear hb
   refine ⟨bO9_0.1, ?_⟩
   have ow48 : OwnL rawR O45 41 4 (.slice (some ⟨O45, 0, none⟩) 0 0) X46 [] := OwnL.empty rawR hpO45 (Nat.le_refl _)
   have hbk49 := ow48.lt; have ow48l : ([] : List RawPc).length = 0 := rfl
   refine wd_two 5 14 hR rfl rfl (by kernel_rfl) (by kernel_rfl) (by kernel_rfl) (by kernel_rfl) ?_ ?_
   ·
    have hl51 : (([]) ++ (rs.drop kk)).length = 0 + (k - kk) := by rw [List.length_append, ow48l, ((hRw.ext hX17).drop (k := kk) (c := c) (by omega) (by omega)).1]
    have hbs63 := ow48.base
    obtain ⟨g53, cap54, w55, hrun56, own57, hgr58, hgb59, hcap50, hor52⟩ := app_raws (c := c - kk) ow48 (Nat.le_of_lt (Nat.lt_of_lt_of_le hyO45 (Nat.le_refl _))) ow48l (Nat.le_refl 0) ((hRw.ext hX17).drop (k := kk) (c := c) (by omega) (by omega)) (by omega)
    refine sn_eff (v := .slice (some ⟨g53, 0, none⟩) (0 + (k - kk)) cap54) (w' := w55) (ex_append rfl (by kernel_rfl) (by kernel_rfl) hrun56) ?_
    replace hr5v := VA.grownR hr5v hgb59 (own_not hbs63 (Nat.lt_of_lt_of_le lt8 (T (T hs11 (T hs14 (T hs16 (T hs33 (T hs37 (T hs40 hs44)))))) (Nat.le_of_eq hzO45)))); replace bO9_0 := BoxAt.grownR bO9_0 hgb59 (own_not hbs63 (Nat.lt_of_lt_of_le lt12 (T (T hs14 (T hs16 (T hs33 (T hs37 (T hs40 hs44))))) (Nat.le_of_eq hzO45)))); replace hV31 := VA.grownR hV31 hgb59 (own_not hbs63 (Nat.lt_of_lt_of_le lt34 (T (T hs37 (T hs40 hs44)) (Nat.le_of_eq hzO45)))); replace bO35_0 := BoxAt.grownR bO35_0 hgb59 (own_not hbs63 (Nat.lt_of_lt_of_le lt38 (T (T hs40 hs44) (Nat.le_of_eq hzO45)))); replace bO35_1 := BoxAt.grownR bO35_1 hgb59 (own_not hbs63 (Nat.lt_of_lt_of_le lt38 (T (T hs40 hs44) (Nat.le_of_eq hzO45)))); replace bO35_2 := BoxAt.grownR bO35_2 hgb59 (own_not hbs63 (Nat.lt_of_lt_of_le lt38 (T (T hs40 hs44) (Nat.le_of_eq hzO45)))); replace bO35_3 := BoxAt.grownR bO35_3 hgb59 (own_not hbs63 (Nat.lt_of_lt_of_le lt38 (T (T hs40 hs44) (Nat.le_of_eq hzO45)))); replace hE := hgr58.ext _ hE (T (T hs2 (T hs7 (T hs11 (T hs14 (T hs16 (T hs33 (T hs37 (T hs40 hs44)))))))) (Nat.le_of_eq hzO45)); replace hX17 := hgr58.ext _ hX17 (T (T hs33 (T hs37 (T hs40 hs44))) (Nat.le_of_eq hzO45)); replace hX42 := hgr58.ext _ hX42 (T hs44 (Nat.le_of_eq hzO45)); have hs60 := hgr58.size
    refine ⟨bO9_0.1, ?_⟩
    have hl61 := own57.base g53 rfl; have hh62 := own57.lt g53 rfl
    have hbk65 := own57.lt
    refine wd_two 9 14 hR rfl rfl (by kernel_rfl) (by kernel_rfl) (by kernel_rfl) (by kernel_rfl) ?_ ?_
    ·
     have hl67 : ((([]) ++ (rs.drop kk)) ++ (rs.take kk)).length = (0 + (k - kk)) + kk := by rw [List.length_append, hl51, ((hRw.ext hX17).take (k := kk) (by omega)).1]
     have hbs79 := own57.base
     obtain ⟨g69, cap70, w71, hrun72, own73, hgr74, hgb75, hcap66, hor68⟩ := app_raws (c := c) own57 (Nat.le_of_lt (Nat.lt_of_lt_of_le hyO45 hs60)) hl51 hcap50 ((hRw.ext hX17).take (k := kk) (by omega)) (by omega)
     refine sn_eff (v := .slice (some ⟨g69, 0, none⟩) ((0 + (k - kk)) + kk) cap70) (w' := w71) (ex_append rfl (by kernel_rfl) (by kernel_rfl) hrun72) ?_
     replace hr5v := VA.grownR hr5v hgb75 (own_not hbs79 (Nat.lt_of_lt_of_le lt8 (T (T hs11 (T hs14 (T hs16 (T hs33 (T hs37 (T hs40 hs44)))))) (Nat.le_of_eq hzO45)))); replace bO9_0 := BoxAt.grownR bO9_0 hgb75 (own_not hbs79 (Nat.lt_of_lt_of_le lt12 (T (T hs14 (T hs16 (T hs33 (T hs37 (T hs40 hs44))))) (Nat.le_of_eq hzO45)))); replace hV31 := VA.grownR hV31 hgb75 (own_not hbs79 (Nat.lt_of_lt_of_le lt34 (T (T hs37 (T hs40 hs44)) (Nat.le_of_eq hzO45)))); replace bO35_0 := BoxAt.grownR bO35_0 hgb75 (own_not hbs79 (Nat.lt_of_lt_of_le lt38 (T (T hs40 hs44) (Nat.le_of_eq hzO45)))); replace bO35_1 := BoxAt.grownR bO35_1 hgb75 (own_not hbs79 (Nat.lt_of_lt_of_le lt38 (T (T hs40 hs44) (Nat.le_of_eq hzO45)))); replace bO35_2 := BoxAt.grownR bO35_2 hgb75 (own_not hbs79 (Nat.lt_of_lt_of_le lt38 (T (T hs40 hs44) (Nat.le_of_eq hzO45)))); replace bO35_3 := BoxAt.grownR bO35_3 hgb75 (own_not hbs79 (Nat.lt_of_lt_of_le lt38 (T (T hs40 hs44) (Nat.le_of_eq hzO45)))); replace hE := hgr74.ext _ hE (T (T hs2 (T hs7 (T hs11 (T hs14 (T hs16 (T hs33 (T hs37 (T hs40 hs44)))))))) (Nat.le_of_eq hzO45)); replace hX17 := hgr74.ext _ hX17 (T (T hs33 (T hs37 (T hs40 hs44))) (Nat.le_of_eq hzO45)); replace hX42 := hgr74.ext _ hX42 (T hs44 (Nat.le_of_eq hzO45)); have hs76 := hgr74.size
     refine ⟨bO9_0.1, ?_⟩
     have hl77 := own73.base g69 rfl; have hh78 := own73.lt g69 rfl
     have hbk81 := own73.lt
     refine wd_two 10 14 hR rfl rfl (by kernel_rfl) (by kernel_rfl) (by kernel_rfl) (by kernel_rfl) ?_ ?_
     ·
      have hPT82 : PcsAt w71 (some ⟨g69, 0, none⟩) ((0 + (k - kk)) + kk) (ps.drop kk ++ ps.take kk) := ⟨_, raws_own own73 hl67 (by omega), (((hrd.drop kk).app (hrd.take kk)).ext hX17)⟩
      refine sn_call (f := 11) (args := #[.int .i64 1, .agg #[.slice (some ⟨B3, 0, none⟩) 24 24], .slice (some ⟨g69, 0, none⟩) ((0 + (k - kk)) + kk) cap70]) (by kernel_rfl) (((Build_c (id := 1) (l := ps.drop kk ++ ps.take kk) _ _ (by omega) (aa_q (hr5v.aa)) (Ext.refl _) hPT82 (Ext.refl _) (hT.ext hE)).mono fun _ _ h => h.eq (Prod.build_ok (by omega) hva (Prod.good_perm (Prod.turn_perm ps kk) hgl) (by rw [List.length_append, List.length_drop, List.length_take, hl]; omega)) rfl rfl).mono ?_)
      rintro e w97 ⟨a83, n84, k85, a86, n87, c88, rfl, hA89, hfr90, hP91, hnc92, hpl93, hb⟩
      replace hE := hE.trans hb; replace hX17 := hX17.trans hb; replace hX42 := hX42.trans hb; replace hr5v := hr5v.ext hb; replace bO9_0 := BoxAt.ext hb bO9_0; replace hV31 := hV31.ext hb; replace bO35_0 := BoxAt.ext hb bO35_0; replace bO35_1 := BoxAt.ext hb bO35_1; replace bO35_2 := BoxAt.ext hb bO35_2; replace bO35_3 := BoxAt.ext hb bO35_3; replace own73 := own73.ext hb; have hs98 := hb.size; clear hb
      obtain ⟨b94, o95, rfl, rfl, hV96⟩ := va_of hA89 (hva)
      have hfr90l := hfr90 _ rfl
      have lt99 := hV96.lt
      have hP91n : PcsS (fun k => w71.heap.size ≤ k ∧ k < w97.heap.size) w97 a86 n87 (Prod.divide ar (ps.drop kk ++ ps.take kk)) := PcsS.both hP91
      refine ⟨_, rfl, bO9_0.1, ?_⟩
      refine wT 11 (.tuple #[.agg #[.int .i64 1, .int .i64 1, .slice (some ⟨b94, o95, none⟩) 24 k85, .slice a86 n87 c88], .int .i64 0]) hR (fun w _ => by kernel_rfl) (bO9_0.1) ?_
      refine wT 12 (.agg #[.int .i64 1, .int .i64 1, .slice (some ⟨b94, o95, none⟩) 24 k85, .slice a86 n87 c88]) hR (fun w _ => by kernel_rfl) (bO9_0.1) ?_
      refine wT 13 (.int .i64 0) hR (fun w _ => by kernel_rfl) (bO9_0.1) ?_
      refine wS 14 hR (sn_new (us := #[.int .i64 0, .int .i64 0, .slice none 0 0, .slice none 0 0]) (t := 31) (by kernel_rfl) ?_)
      intro O100 X101 hzO100 hyO100 hb hbx; have ⟨bO100_0, bO100_1, bO100_2, bO100_3⟩ := bx4 hbx; clear hbx
      replace hE := hE.trans hb; replace hX17 := hX17.trans hb; replace hX42 := hX42.trans hb; replace hr5v := hr5v.ext hb; replace bO9_0 := BoxAt.ext hb bO9_0; replace hV31 := hV31.ext hb; replace bO35_0 := BoxAt.ext hb bO35_0; replace bO35_1 := BoxAt.ext hb bO35_1; replace bO35_2 := BoxAt.ext hb bO35_2; replace bO35_3 := BoxAt.ext hb bO35_3; replace hV96 := hV96.ext hb; replace hP91n := hP91n.ext hb; have hs102 := hb.size; clear hb; have lt103 := bO100_0.lt
      refine ⟨bO9_0.1, ?_⟩
      refine wS 15 hR (sn_setK4 (O := O100) (j := 0) (v0 := .int .i64 1) (v1 := .int .i64 1) (v2 := .slice (some ⟨b94, o95, none⟩) 24 k85) (v3 := .slice a86 n87 c88) (ex_store (p := .pointer (some ⟨O100, 0, none⟩)) (v := .agg #[.int .i64 1, .int .i64 1, .slice (some ⟨b94, o95, none⟩) 24 k85, .slice a86 n87 c88]) rfl (by kernel_rfl) (by kernel_rfl) (st31 bO100_0.1 bO100_0.2 bO100_1.1 bO100_1.2 bO100_2.1 bO100_2.2 bO100_3.1 bO100_3.2)) bO100_0 bO100_1 bO100_2 bO100_3 ?_)
      intro X104 ho hv0 hv1 hv2 hv3 hk; replace hE := ho.ext hE (T (T hs2 (T hs7 (T hs11 (T hs14 (T hs16 (T hs33 (T hs37 (T hs40 (T hs44 (T hs47 (T hs60 (T hs76 hs98)))))))))))) (Nat.le_of_eq hzO100)); replace hX17 := ho.ext hX17 (T (T hs33 (T hs37 (T hs40 (T hs44 (T hs47 (T hs60 (T hs76 hs98))))))) (Nat.le_of_eq hzO100)); replace hX42 := ho.ext hX42 (T (T hs44 (T hs47 (T hs60 (T hs76 hs98)))) (Nat.le_of_eq hzO100)); replace hr5v := ho.va (Nat.ne_of_gt (Nat.lt_of_lt_of_le lt8 (T (T hs11 (T hs14 (T hs16 (T hs33 (T hs37 (T hs40 (T hs44 (T hs47 (T hs60 (T hs76 hs98)))))))))) (Nat.le_of_eq hzO100)))) hr5v; replace bO9_0 := ho.box (Nat.ne_of_gt (Nat.lt_of_lt_of_le lt12 (T (T hs14 (T hs16 (T hs33 (T hs37 (T hs40 (T hs44 (T hs47 (T hs60 (T hs76 hs98))))))))) (Nat.le_of_eq hzO100)))) bO9_0; replace hV31 := ho.va (Nat.ne_of_gt (Nat.lt_of_lt_of_le lt34 (T (T hs37 (T hs40 (T hs44 (T hs47 (T hs60 (T hs76 hs98)))))) (Nat.le_of_eq hzO100)))) hV31
      have q9 := fun (j : Nat) (v : Value) (h : BoxAt _ O35 j v) => ho.box (Nat.ne_of_gt (Nat.lt_of_lt_of_le lt38 (T (T hs40 (T hs44 (T hs47 (T hs60 (T hs76 hs98))))) (Nat.le_of_eq hzO100)))) h
      replace bO35_0 := q9 _ _ bO35_0; replace bO35_1 := q9 _ _ bO35_1; replace bO35_2 := q9 _ _ bO35_2; replace bO35_3 := q9 _ _ bO35_3; clear q9; replace hV96 := ho.va (Nat.ne_of_gt (Nat.lt_of_lt_of_le lt99 (Nat.le_of_eq hzO100))) hV96; replace hP91n := hP91n.turn ho (fun h => absurd h.2 (Nat.not_lt_of_le (Nat.le_of_eq hzO100))); have hs105 : X101.heap.size ≤ X104.heap.size := Nat.le_of_eq ho.size.symm; clear ho hk bO100_0 bO100_1 bO100_2 bO100_3; have bO100_0 := hv0; clear hv0; have bO100_1 := hv1; clear hv1; have bO100_2 := hv2; clear hv2; have bO100_3 := hv3; clear hv3
      refine ⟨bO9_0.1, ?_⟩
      refine wT 16 (.int .i64 0) hR (fun w _ => by kernel_rfl) (bO9_0.1) ?_
      refine wd_end hL hR hK (by kernel_rfl) ?_
      have hPx106 := PcsS.pcs hP91n
      have hX107 : Ext X104 X104 := Ext.refl _
      exact qw_leaf hJ [10, 11, 12, 13] (ws' := [(10, .pointer (some ⟨O35, 0, none⟩)), (11, .int .i64 0), (12, .pointer (some ⟨O100, 0, none⟩)), (13, .int .i64 0)]) (by kernel_rfl) ⟨O45, b94, o95, k85, a86, n87, c88, O100, rfl, hE, hX17, hX42, hr5v, bO9_0, hV31, bO35_0, bO35_1, bO35_2, bO35_3, hnc92, hpl93, hV96, hPx106, bO100_0, bO100_1, bO100_2, bO100_3, (T hs44 (T hs47 (T hs60 (T hs76 (T hs98 (T hs102 hs105)))))), (T (T hs44 (T hs47 (T hs60 hs76))) hfr90l), (T (T hs44 (T hs47 (T hs60 (T hs76 hs98)))) (Nat.le_of_eq hzO100)), Lib.hid (Nat.ne_of_lt (Nat.lt_of_lt_of_le lt99 (Nat.le_of_eq hzO100)))⟩
     ·
      refine sn_new (us := #[.int .i64 0, .int .i64 0, .slice none 0 0, .slice none 0 0]) (t := 31) (by kernel_rfl) ?_
      intro O108 X109 hzO108 hyO108 hb hbx; have ⟨bO108_0, bO108_1, bO108_2, bO108_3⟩ := bx4 hbx; clear hbx
      replace hE := hE.trans hb; replace hX17 := hX17.trans hb; replace hX42 := hX42.trans hb; replace hr5v := hr5v.ext hb; replace bO9_0 := BoxAt.ext hb bO9_0; replace hV31 := hV31.ext hb; replace bO35_0 := BoxAt.ext hb bO35_0; replace bO35_1 := BoxAt.ext hb bO35_1; replace bO35_2 := BoxAt.ext hb bO35_2; replace bO35_3 := BoxAt.ext hb bO35_3; replace own73 := own73.ext hb; have hs110 := hb.size; clear hb; have lt111 := bO108_0.lt
      refine ⟨bO9_0.1, ?_⟩
      have hPT112 : PcsAt X109 (some ⟨g69, 0, none⟩) ((0 + (k - kk)) + kk) (ps.drop kk ++ ps.take kk) := ⟨_, raws_own own73 hl67 (by omega), (((hrd.drop kk).app (hrd.take kk)).ext hX17)⟩
      refine wS 10 hR (sn_call (f := 11) (args := #[.int .i64 1, .agg #[.slice (some ⟨B3, 0, none⟩) 24 24], .slice (some ⟨g69, 0, none⟩) ((0 + (k - kk)) + kk) cap70]) (by kernel_rfl) (((Build_c (id := 1) (l := ps.drop kk ++ ps.take kk) _ _ (by omega) (aa_q (hr5v.aa)) (Ext.refl _) hPT112 (Ext.refl _) (hT.ext hE)).mono fun _ _ h => h.eq (Prod.build_ok (by omega) hva (Prod.good_perm (Prod.turn_perm ps kk) hgl) (by rw [List.length_append, List.length_drop, List.length_take, hl]; omega)) rfl rfl).mono ?_))
      rintro e w127 ⟨a113, n114, k115, a116, n117, c118, rfl, hA119, hfr120, hP121, hnc122, hpl123, hb⟩
      replace hE := hE.trans hb; replace hX17 := hX17.trans hb; replace hX42 := hX42.trans hb; replace hr5v := hr5v.ext hb; replace bO9_0 := BoxAt.ext hb bO9_0; replace hV31 := hV31.ext hb; replace bO35_0 := BoxAt.ext hb bO35_0; replace bO35_1 := BoxAt.ext hb bO35_1; replace bO35_2 := BoxAt.ext hb bO35_2; replace bO35_3 := BoxAt.ext hb bO35_3; replace own73 := own73.ext hb; replace bO108_0 := BoxAt.ext hb bO108_0; replace bO108_1 := BoxAt.ext hb bO108_1; replace bO108_2 := BoxAt.ext hb bO108_2; replace bO108_3 := BoxAt.ext hb bO108_3; have hs128 := hb.size; clear hb
      obtain ⟨b124, o125, rfl, rfl, hV126⟩ := va_of hA119 (hva)
      have hfr120l := hfr120 _ rfl
      have lt129 := hV126.lt
      have hP121n : PcsS (fun k => X109.heap.size ≤ k ∧ k < w127.heap.size) w127 a116 n117 (Prod.divide ar (ps.drop kk ++ ps.take kk)) := PcsS.both hP121
      refine ⟨_, rfl, bO9_0.1, ?_⟩
      refine wT 11 (.tuple #[.agg #[.int .i64 1, .int .i64 1, .slice (some ⟨b124, o125, none⟩) 24 k115, .slice a116 n117 c118], .int .i64 0]) hR (fun w _ => by kernel_rfl) (bO9_0.1) ?_
      refine wT 12 (.agg #[.int .i64 1, .int .i64 1, .slice (some ⟨b124, o125, none⟩) 24 k115, .slice a116 n117 c118]) hR (fun w _ => by kernel_rfl) (bO9_0.1) ?_
      refine wT 13 (.int .i64 0) hR (fun w _ => by kernel_rfl) (bO9_0.1) ?_
      refine wS 15 hR (sn_setK4 (O := O108) (j := 0) (v0 := .int .i64 1) (v1 := .int .i64 1) (v2 := .slice (some ⟨b124, o125, none⟩) 24 k115) (v3 := .slice a116 n117 c118) (ex_store (p := .pointer (some ⟨O108, 0, none⟩)) (v := .agg #[.int .i64 1, .int .i64 1, .slice (some ⟨b124, o125, none⟩) 24 k115, .slice a116 n117 c118]) rfl (by kernel_rfl) (by kernel_rfl) (st31 bO108_0.1 bO108_0.2 bO108_1.1 bO108_1.2 bO108_2.1 bO108_2.2 bO108_3.1 bO108_3.2)) bO108_0 bO108_1 bO108_2 bO108_3 ?_)
      intro X130 ho hv0 hv1 hv2 hv3 hk; replace hE := ho.ext hE (T (T hs2 (T hs7 (T hs11 (T hs14 (T hs16 (T hs33 (T hs37 (T hs40 (T hs44 (T hs47 (T hs60 hs76))))))))))) (Nat.le_of_eq hzO108)); replace hX17 := ho.ext hX17 (T (T hs33 (T hs37 (T hs40 (T hs44 (T hs47 (T hs60 hs76)))))) (Nat.le_of_eq hzO108)); replace hX42 := ho.ext hX42 (T (T hs44 (T hs47 (T hs60 hs76))) (Nat.le_of_eq hzO108)); replace hr5v := ho.va (Nat.ne_of_gt (Nat.lt_of_lt_of_le lt8 (T (T hs11 (T hs14 (T hs16 (T hs33 (T hs37 (T hs40 (T hs44 (T hs47 (T hs60 hs76))))))))) (Nat.le_of_eq hzO108)))) hr5v; replace bO9_0 := ho.box (Nat.ne_of_gt (Nat.lt_of_lt_of_le lt12 (T (T hs14 (T hs16 (T hs33 (T hs37 (T hs40 (T hs44 (T hs47 (T hs60 hs76)))))))) (Nat.le_of_eq hzO108)))) bO9_0; replace hV31 := ho.va (Nat.ne_of_gt (Nat.lt_of_lt_of_le lt34 (T (T hs37 (T hs40 (T hs44 (T hs47 (T hs60 hs76))))) (Nat.le_of_eq hzO108)))) hV31
      have q9 := fun (j : Nat) (v : Value) (h : BoxAt _ O35 j v) => ho.box (Nat.ne_of_gt (Nat.lt_of_lt_of_le lt38 (T (T hs40 (T hs44 (T hs47 (T hs60 hs76)))) (Nat.le_of_eq hzO108)))) h
      replace bO35_0 := q9 _ _ bO35_0; replace bO35_1 := q9 _ _ bO35_1; replace bO35_2 := q9 _ _ bO35_2; replace bO35_3 := q9 _ _ bO35_3; clear q9; replace hV126 := ho.va (Nat.ne_of_lt (Nat.lt_of_lt_of_le lt111 hfr120l)) hV126; replace hP121n := hP121n.turn ho (fun h => absurd h.1 (Nat.not_le_of_lt (Nat.lt_of_lt_of_le lt111 (Nat.le_refl _)))); have hs131 : w127.heap.size ≤ X130.heap.size := Nat.le_of_eq ho.size.symm; clear ho hk bO108_0 bO108_1 bO108_2 bO108_3; have bO108_0 := hv0; clear hv0; have bO108_1 := hv1; clear hv1; have bO108_2 := hv2; clear hv2; have bO108_3 := hv3; clear hv3
      refine ⟨bO9_0.1, ?_⟩
      refine wT 16 (.int .i64 0) hR (fun w _ => by kernel_rfl) (bO9_0.1) ?_
      refine wd_end hL hR hK (by kernel_rfl) ?_
      have hPx132 := PcsS.pcs hP121n
      have hX133 : Ext X130 X130 := Ext.refl _
      exact qw_leaf hJ [10, 11, 12, 13] (ws' := [(10, .pointer (some ⟨O35, 0, none⟩)), (11, .int .i64 0), (12, .pointer (some ⟨O108, 0, none⟩)), (13, .int .i64 0)]) (by kernel_rfl) ⟨O45, b124, o125, k115, a116, n117, c118, O108, rfl, hE, hX17, hX42, hr5v, bO9_0, hV31, bO35_0, bO35_1, bO35_2, bO35_3, hnc122, hpl123, hV126, hPx132, bO108_0, bO108_1, bO108_2, bO108_3, (T hs44 (T hs47 (T hs60 (T hs76 (T hs110 (T hs128 hs131)))))), (T (T hs44 (T hs47 (T hs60 (T hs76 hs110)))) hfr120l), (T (T hs44 (T hs47 (T hs60 hs76))) (Nat.le_of_eq hzO108)), Lib.hid (Nat.ne_of_gt (Nat.lt_of_lt_of_le lt111 hfr120l))⟩
    ·
     refine sn_new (us := #[.int .i64 0, .int .i64 0, .slice none 0 0, .slice none 0 0]) (t := 31) (by kernel_rfl) ?_
     intro O134 X135 hzO134 hyO134 hb hbx; have ⟨bO134_0, bO134_1, bO134_2, bO134_3⟩ := bx4 hbx; clear hbx
     replace hE := hE.trans hb; replace hX17 := hX17.trans hb; replace hX42 := hX42.trans hb; replace hr5v := hr5v.ext hb; replace bO9_0 := BoxAt.ext hb bO9_0; replace hV31 := hV31.ext hb; replace bO35_0 := BoxAt.ext hb bO35_0; replace bO35_1 := BoxAt.ext hb bO35_1; replace bO35_2 := BoxAt.ext hb bO35_2; replace bO35_3 := BoxAt.ext hb bO35_3; replace own57 := own57.ext hb; have hs136 := hb.size; clear hb; have lt137 := bO134_0.lt
     refine ⟨bO9_0.1, ?_⟩
     have hl139 : ((([]) ++ (rs.drop kk)) ++ (rs.take kk)).length = (0 + (k - kk)) + kk := by rw [List.length_append, hl51, ((hRw.ext hX17).take (k := kk) (by omega)).1]
     have hbs151 := own57.base
     obtain ⟨g141, cap142, w143, hrun144, own145, hgr146, hgb147, hcap138, hor140⟩ := app_raws (c := c) own57 (Nat.le_of_lt (Nat.lt_of_lt_of_le hyO45 (T hs60 hs136))) hl51 hcap50 ((hRw.ext hX17).take (k := kk) (by omega)) (by omega)
     refine wS 9 hR (sn_eff (v := .slice (some ⟨g141, 0, none⟩) ((0 + (k - kk)) + kk) cap142) (w' := w143) (ex_append rfl (by kernel_rfl) (by kernel_rfl) hrun144) ?_)
     replace hr5v := VA.grownR hr5v hgb147 (own_not hbs151 (Nat.lt_of_lt_of_le lt8 (T (T hs11 (T hs14 (T hs16 (T hs33 (T hs37 (T hs40 hs44)))))) (Nat.le_of_eq hzO45)))); replace bO9_0 := BoxAt.grownR bO9_0 hgb147 (own_not hbs151 (Nat.lt_of_lt_of_le lt12 (T (T hs14 (T hs16 (T hs33 (T hs37 (T hs40 hs44))))) (Nat.le_of_eq hzO45)))); replace hV31 := VA.grownR hV31 hgb147 (own_not hbs151 (Nat.lt_of_lt_of_le lt34 (T (T hs37 (T hs40 hs44)) (Nat.le_of_eq hzO45)))); replace bO35_0 := BoxAt.grownR bO35_0 hgb147 (own_not hbs151 (Nat.lt_of_lt_of_le lt38 (T (T hs40 hs44) (Nat.le_of_eq hzO45)))); replace bO35_1 := BoxAt.grownR bO35_1 hgb147 (own_not hbs151 (Nat.lt_of_lt_of_le lt38 (T (T hs40 hs44) (Nat.le_of_eq hzO45)))); replace bO35_2 := BoxAt.grownR bO35_2 hgb147 (own_not hbs151 (Nat.lt_of_lt_of_le lt38 (T (T hs40 hs44) (Nat.le_of_eq hzO45)))); replace bO35_3 := BoxAt.grownR bO35_3 hgb147 (own_not hbs151 (Nat.lt_of_lt_of_le lt38 (T (T hs40 hs44) (Nat.le_of_eq hzO45)))); replace bO134_0 := BoxAt.grownR bO134_0 hgb147 (fun e => absurd (Option.some.inj e) (Nat.ne_of_lt (Nat.lt_of_lt_of_le hh62 (Nat.le_of_eq hzO134)))); replace bO134_1 := BoxAt.grownR bO134_1 hgb147 (fun e => absurd (Option.some.inj e) (Nat.ne_of_lt (Nat.lt_of_lt_of_le hh62 (Nat.le_of_eq hzO134)))); replace bO134_2 := BoxAt.grownR bO134_2 hgb147 (fun e => absurd (Option.some.inj e) (Nat.ne_of_lt (Nat.lt_of_lt_of_le hh62 (Nat.le_of_eq hzO134)))); replace bO134_3 := BoxAt.grownR bO134_3 hgb147 (fun e => absurd (Option.some.inj e) (Nat.ne_of_lt (Nat.lt_of_lt_of_le hh62 (Nat.le_of_eq hzO134)))); replace hE := hgr146.ext _ hE (T (T hs2 (T hs7 (T hs11 (T hs14 (T hs16 (T hs33 (T hs37 (T hs40 hs44)))))))) (Nat.le_of_eq hzO45)); replace hX17 := hgr146.ext _ hX17 (T (T hs33 (T hs37 (T hs40 hs44))) (Nat.le_of_eq hzO45)); replace hX42 := hgr146.ext _ hX42 (T hs44 (Nat.le_of_eq hzO45)); have hs148 := hgr146.size
     refine ⟨bO9_0.1, ?_⟩
     have hl149 := own145.base g141 rfl; have hh150 := own145.lt g141 rfl
     have hne153 : Hid (g141 ≠ O134) := Lib.hid (hor140.elim (fun e => by rw [e]; exact (Nat.ne_of_lt (Nat.lt_of_lt_of_le hh62 (Nat.le_of_eq hzO134)))) (fun q => Nat.ne_of_gt (Nat.lt_of_lt_of_le lt137 (T (Nat.le_refl _) q))))
     have hbk154 := own145.lt
     have hPT155 : PcsAt w143 (some ⟨g141, 0, none⟩) ((0 + (k - kk)) + kk) (ps.drop kk ++ ps.take kk) := ⟨_, raws_own own145 hl139 (by omega), (((hrd.drop kk).app (hrd.take kk)).ext hX17)⟩
     refine wS 10 hR (sn_call (f := 11) (args := #[.int .i64 1, .agg #[.slice (some ⟨B3, 0, none⟩) 24 24], .slice (some ⟨g141, 0, none⟩) ((0 + (k - kk)) + kk) cap142]) (by kernel_rfl) (((Build_c (id := 1) (l := ps.drop kk ++ ps.take kk) _ _ (by omega) (aa_q (hr5v.aa)) (Ext.refl _) hPT155 (Ext.refl _) (hT.ext hE)).mono fun _ _ h => h.eq (Prod.build_ok (by omega) hva (Prod.good_perm (Prod.turn_perm ps kk) hgl) (by rw [List.length_append, List.length_drop, List.length_take, hl]; omega)) rfl rfl).mono ?_))
     rintro e w170 ⟨a156, n157, k158, a159, n160, c161, rfl, hA162, hfr163, hP164, hnc165, hpl166, hb⟩
     replace hE := hE.trans hb; replace hX17 := hX17.trans hb; replace hX42 := hX42.trans hb; replace hr5v := hr5v.ext hb; replace bO9_0 := BoxAt.ext hb bO9_0; replace hV31 := hV31.ext hb; replace bO35_0 := BoxAt.ext hb bO35_0; replace bO35_1 := BoxAt.ext hb bO35_1; replace bO35_2 := BoxAt.ext hb bO35_2; replace bO35_3 := BoxAt.ext hb bO35_3; replace bO134_0 := BoxAt.ext hb bO134_0; replace bO134_1 := BoxAt.ext hb bO134_1; replace bO134_2 := BoxAt.ext hb bO134_2; replace bO134_3 := BoxAt.ext hb bO134_3; replace own145 := own145.ext hb; have hs171 := hb.size; clear hb
     obtain ⟨b167, o168, rfl, rfl, hV169⟩ := va_of hA162 (hva)
     have hfr163l := hfr163 _ rfl
     have lt172 := hV169.lt
     have hP164n : PcsS (fun k => w143.heap.size ≤ k ∧ k < w170.heap.size) w170 a159 n160 (Prod.divide ar (ps.drop kk ++ ps.take kk)) := PcsS.both hP164
     refine ⟨_, rfl, bO9_0.1, ?_⟩
     refine wT 11 (.tuple #[.agg #[.int .i64 1, .int .i64 1, .slice (some ⟨b167, o168, none⟩) 24 k158, .slice a159 n160 c161], .int .i64 0]) hR (fun w _ => by kernel_rfl) (bO9_0.1) ?_
     refine wT 12 (.agg #[.int .i64 1, .int .i64 1, .slice (some ⟨b167, o168, none⟩) 24 k158, .slice a159 n160 c161]) hR (fun w _ => by kernel_rfl) (bO9_0.1) ?_
     refine wT 13 (.int .i64 0) hR (fun w _ => by kernel_rfl) (bO9_0.1) ?_
     refine wS 15 hR (sn_setK4 (O := O134) (j := 0) (v0 := .int .i64 1) (v1 := .int .i64 1) (v2 := .slice (some ⟨b167, o168, none⟩) 24 k158) (v3 := .slice a159 n160 c161) (ex_store (p := .pointer (some ⟨O134, 0, none⟩)) (v := .agg #[.int .i64 1, .int .i64 1, .slice (some ⟨b167, o168, none⟩) 24 k158, .slice a159 n160 c161]) rfl (by kernel_rfl) (by kernel_rfl) (st31 bO134_0.1 bO134_0.2 bO134_1.1 bO134_1.2 bO134_2.1 bO134_2.2 bO134_3.1 bO134_3.2)) bO134_0 bO134_1 bO134_2 bO134_3 ?_)
     intro X173 ho hv0 hv1 hv2 hv3 hk; replace hE := ho.ext hE (T (T hs2 (T hs7 (T hs11 (T hs14 (T hs16 (T hs33 (T hs37 (T hs40 (T hs44 (T hs47 hs60)))))))))) (Nat.le_of_eq hzO134)); replace hX17 := ho.ext hX17 (T (T hs33 (T hs37 (T hs40 (T hs44 (T hs47 hs60))))) (Nat.le_of_eq hzO134)); replace hX42 := ho.ext hX42 (T (T hs44 (T hs47 hs60)) (Nat.le_of_eq hzO134)); replace hr5v := ho.va (Nat.ne_of_gt (Nat.lt_of_lt_of_le lt8 (T (T hs11 (T hs14 (T hs16 (T hs33 (T hs37 (T hs40 (T hs44 (T hs47 hs60)))))))) (Nat.le_of_eq hzO134)))) hr5v; replace bO9_0 := ho.box (Nat.ne_of_gt (Nat.lt_of_lt_of_le lt12 (T (T hs14 (T hs16 (T hs33 (T hs37 (T hs40 (T hs44 (T hs47 hs60))))))) (Nat.le_of_eq hzO134)))) bO9_0; replace hV31 := ho.va (Nat.ne_of_gt (Nat.lt_of_lt_of_le lt34 (T (T hs37 (T hs40 (T hs44 (T hs47 hs60)))) (Nat.le_of_eq hzO134)))) hV31
     have q9 := fun (j : Nat) (v : Value) (h : BoxAt _ O35 j v) => ho.box (Nat.ne_of_gt (Nat.lt_of_lt_of_le lt38 (T (T hs40 (T hs44 (T hs47 hs60))) (Nat.le_of_eq hzO134)))) h
     replace bO35_0 := q9 _ _ bO35_0; replace bO35_1 := q9 _ _ bO35_1; replace bO35_2 := q9 _ _ bO35_2; replace bO35_3 := q9 _ _ bO35_3; clear q9; replace hV169 := ho.va (Nat.ne_of_lt (Nat.lt_of_lt_of_le lt137 (T hs148 hfr163l))) hV169; replace hP164n := hP164n.turn ho (fun h => absurd h.1 (Nat.not_le_of_lt (Nat.lt_of_lt_of_le lt137 hs148))); have hs174 : w170.heap.size ≤ X173.heap.size := Nat.le_of_eq ho.size.symm; clear ho hk bO134_0 bO134_1 bO134_2 bO134_3; have bO134_0 := hv0; clear hv0; have bO134_1 := hv1; clear hv1; have bO134_2 := hv2; clear hv2; have bO134_3 := hv3; clear hv3
     refine ⟨bO9_0.1, ?_⟩
     refine wT 16 (.int .i64 0) hR (fun w _ => by kernel_rfl) (bO9_0.1) ?_
     refine wd_end hL hR hK (by kernel_rfl) ?_
     have hPx175 := PcsS.pcs hP164n
     have hX176 : Ext X173 X173 := Ext.refl _
     exact qw_leaf hJ [10, 11, 12, 13] (ws' := [(10, .pointer (some ⟨O35, 0, none⟩)), (11, .int .i64 0), (12, .pointer (some ⟨O134, 0, none⟩)), (13, .int .i64 0)]) (by kernel_rfl) ⟨O45, b167, o168, k158, a159, n160, c161, O134, rfl, hE, hX17, hX42, hr5v, bO9_0, hV31, bO35_0, bO35_1, bO35_2, bO35_3, hnc165, hpl166, hV169, hPx175, bO134_0, bO134_1, bO134_2, bO134_3, (T hs44 (T hs47 (T hs60 (T hs136 (T hs148 (T hs171 hs174)))))), (T (T hs44 (T hs47 (T hs60 (T hs136 hs148)))) hfr163l), (T (T hs44 (T hs47 hs60)) (Nat.le_of_eq hzO134)), Lib.hid (Nat.ne_of_gt (Nat.lt_of_lt_of_le lt137 (T hs148 hfr163l)))⟩
   ·
    refine sn_new (us := #[.int .i64 0, .int .i64 0, .slice none 0 0, .slice none 0 0]) (t := 31) (by kernel_rfl) ?_
    intro O177 X178 hzO177 hyO177 hb hbx; have ⟨bO177_0, bO177_1, bO177_2, bO177_3⟩ := bx4 hbx; clear hbx
    replace hE := hE.trans hb; replace hX17 := hX17.trans hb; replace hX42 := hX42.trans hb; replace hr5v := hr5v.ext hb; replace bO9_0 := BoxAt.ext hb bO9_0; replace hV31 := hV31.ext hb; replace bO35_0 := BoxAt.ext hb bO35_0; replace bO35_1 := BoxAt.ext hb bO35_1; replace bO35_2 := BoxAt.ext hb bO35_2; replace bO35_3 := BoxAt.ext hb bO35_3; replace ow48 := ow48.ext hb; have hs179 := hb.size; clear hb; have lt180 := bO177_0.lt
    refine ⟨bO9_0.1, ?_⟩
    have hl182 : (([]) ++ (rs.drop kk)).length = 0 + (k - kk) := by rw [List.length_append, ow48l, ((hRw.ext hX17).drop (k := kk) (c := c) (by omega) (by omega)).1]
    have hbs194 := ow48.base
    obtain ⟨g184, cap185, w186, hrun187, own188, hgr189, hgb190, hcap181, hor183⟩ := app_raws (c := c - kk) ow48 (Nat.le_of_lt (Nat.lt_of_lt_of_le hyO45 hs179)) ow48l (Nat.le_refl 0) ((hRw.ext hX17).drop (k := kk) (c := c) (by omega) (by omega)) (by omega)
    refine wS 5 hR (sn_eff (v := .slice (some ⟨g184, 0, none⟩) (0 + (k - kk)) cap185) (w' := w186) (ex_append rfl (by kernel_rfl) (by kernel_rfl) hrun187) ?_)
    replace hr5v := VA.grownR hr5v hgb190 (own_not hbs194 (Nat.lt_of_lt_of_le lt8 (T (T hs11 (T hs14 (T hs16 (T hs33 (T hs37 (T hs40 hs44)))))) (Nat.le_of_eq hzO45)))); replace bO9_0 := BoxAt.grownR bO9_0 hgb190 (own_not hbs194 (Nat.lt_of_lt_of_le lt12 (T (T hs14 (T hs16 (T hs33 (T hs37 (T hs40 hs44))))) (Nat.le_of_eq hzO45)))); replace hV31 := VA.grownR hV31 hgb190 (own_not hbs194 (Nat.lt_of_lt_of_le lt34 (T (T hs37 (T hs40 hs44)) (Nat.le_of_eq hzO45)))); replace bO35_0 := BoxAt.grownR bO35_0 hgb190 (own_not hbs194 (Nat.lt_of_lt_of_le lt38 (T (T hs40 hs44) (Nat.le_of_eq hzO45)))); replace bO35_1 := BoxAt.grownR bO35_1 hgb190 (own_not hbs194 (Nat.lt_of_lt_of_le lt38 (T (T hs40 hs44) (Nat.le_of_eq hzO45)))); replace bO35_2 := BoxAt.grownR bO35_2 hgb190 (own_not hbs194 (Nat.lt_of_lt_of_le lt38 (T (T hs40 hs44) (Nat.le_of_eq hzO45)))); replace bO35_3 := BoxAt.grownR bO35_3 hgb190 (own_not hbs194 (Nat.lt_of_lt_of_le lt38 (T (T hs40 hs44) (Nat.le_of_eq hzO45)))); replace bO177_0 := BoxAt.grownR bO177_0 hgb190 (fun e => absurd (Option.some.inj e) (Nat.ne_of_lt (Nat.lt_of_lt_of_le hyO45 (Nat.le_of_eq hzO177)))); replace bO177_1 := BoxAt.grownR bO177_1 hgb190 (fun e => absurd (Option.some.inj e) (Nat.ne_of_lt (Nat.lt_of_lt_of_le hyO45 (Nat.le_of_eq hzO177)))); replace bO177_2 := BoxAt.grownR bO177_2 hgb190 (fun e => absurd (Option.some.inj e) (Nat.ne_of_lt (Nat.lt_of_lt_of_le hyO45 (Nat.le_of_eq hzO177)))); replace bO177_3 := BoxAt.grownR bO177_3 hgb190 (fun e => absurd (Option.some.inj e) (Nat.ne_of_lt (Nat.lt_of_lt_of_le hyO45 (Nat.le_of_eq hzO177)))); replace hE := hgr189.ext _ hE (T (T hs2 (T hs7 (T hs11 (T hs14 (T hs16 (T hs33 (T hs37 (T hs40 hs44)))))))) (Nat.le_of_eq hzO45)); replace hX17 := hgr189.ext _ hX17 (T (T hs33 (T hs37 (T hs40 hs44))) (Nat.le_of_eq hzO45)); replace hX42 := hgr189.ext _ hX42 (T hs44 (Nat.le_of_eq hzO45)); have hs191 := hgr189.size
    refine ⟨bO9_0.1, ?_⟩
    have hl192 := own188.base g184 rfl; have hh193 := own188.lt g184 rfl
    have hne196 : Hid (g184 ≠ O177) := Lib.hid (hor183.elim (fun e => by rw [e]; exact (Nat.ne_of_lt (Nat.lt_of_lt_of_le hyO45 (Nat.le_of_eq hzO177)))) (fun q => Nat.ne_of_gt (Nat.lt_of_lt_of_le lt180 (T (Nat.le_refl _) q))))
    have hbk197 := own188.lt
    have hl199 : ((([]) ++ (rs.drop kk)) ++ (rs.take kk)).length = (0 + (k - kk)) + kk := by rw [List.length_append, hl182, ((hRw.ext hX17).take (k := kk) (by omega)).1]
    have hbs211 := own188.base
    obtain ⟨g201, cap202, w203, hrun204, own205, hgr206, hgb207, hcap198, hor200⟩ := app_raws (c := c) own188 (Nat.le_of_lt (Nat.lt_of_lt_of_le hyO45 (T hs179 hs191))) hl182 hcap181 ((hRw.ext hX17).take (k := kk) (by omega)) (by omega)
    refine wS 9 hR (sn_eff (v := .slice (some ⟨g201, 0, none⟩) ((0 + (k - kk)) + kk) cap202) (w' := w203) (ex_append rfl (by kernel_rfl) (by kernel_rfl) hrun204) ?_)
    replace hr5v := VA.grownR hr5v hgb207 (own_not hbs211 (Nat.lt_of_lt_of_le lt8 (T (T hs11 (T hs14 (T hs16 (T hs33 (T hs37 (T hs40 hs44)))))) (Nat.le_of_eq hzO45)))); replace bO9_0 := BoxAt.grownR bO9_0 hgb207 (own_not hbs211 (Nat.lt_of_lt_of_le lt12 (T (T hs14 (T hs16 (T hs33 (T hs37 (T hs40 hs44))))) (Nat.le_of_eq hzO45)))); replace hV31 := VA.grownR hV31 hgb207 (own_not hbs211 (Nat.lt_of_lt_of_le lt34 (T (T hs37 (T hs40 hs44)) (Nat.le_of_eq hzO45)))); replace bO35_0 := BoxAt.grownR bO35_0 hgb207 (own_not hbs211 (Nat.lt_of_lt_of_le lt38 (T (T hs40 hs44) (Nat.le_of_eq hzO45)))); replace bO35_1 := BoxAt.grownR bO35_1 hgb207 (own_not hbs211 (Nat.lt_of_lt_of_le lt38 (T (T hs40 hs44) (Nat.le_of_eq hzO45)))); replace bO35_2 := BoxAt.grownR bO35_2 hgb207 (own_not hbs211 (Nat.lt_of_lt_of_le lt38 (T (T hs40 hs44) (Nat.le_of_eq hzO45)))); replace bO35_3 := BoxAt.grownR bO35_3 hgb207 (own_not hbs211 (Nat.lt_of_lt_of_le lt38 (T (T hs40 hs44) (Nat.le_of_eq hzO45)))); replace bO177_0 := BoxAt.grownR bO177_0 hgb207 (fun e => absurd (Option.some.inj e) hne196.out); replace bO177_1 := BoxAt.grownR bO177_1 hgb207 (fun e => absurd (Option.some.inj e) hne196.out); replace bO177_2 := BoxAt.grownR bO177_2 hgb207 (fun e => absurd (Option.some.inj e) hne196.out); replace bO177_3 := BoxAt.grownR bO177_3 hgb207 (fun e => absurd (Option.some.inj e) hne196.out); replace hE := hgr206.ext _ hE (T (T hs2 (T hs7 (T hs11 (T hs14 (T hs16 (T hs33 (T hs37 (T hs40 hs44)))))))) (Nat.le_of_eq hzO45)); replace hX17 := hgr206.ext _ hX17 (T (T hs33 (T hs37 (T hs40 hs44))) (Nat.le_of_eq hzO45)); replace hX42 := hgr206.ext _ hX42 (T hs44 (Nat.le_of_eq hzO45)); have hs208 := hgr206.size
    refine ⟨bO9_0.1, ?_⟩
    have hl209 := own205.base g201 rfl; have hh210 := own205.lt g201 rfl
    have hne213 : Hid (g201 ≠ O177) := Lib.hid (hor200.elim (fun e => by rw [e]; exact hne196.out) (fun q => Nat.ne_of_gt (Nat.lt_of_lt_of_le lt180 (T hs191 q))))
    have hbk214 := own205.lt
    have hPT215 : PcsAt w203 (some ⟨g201, 0, none⟩) ((0 + (k - kk)) + kk) (ps.drop kk ++ ps.take kk) := ⟨_, raws_own own205 hl199 (by omega), (((hrd.drop kk).app (hrd.take kk)).ext hX17)⟩
    refine wS 10 hR (sn_call (f := 11) (args := #[.int .i64 1, .agg #[.slice (some ⟨B3, 0, none⟩) 24 24], .slice (some ⟨g201, 0, none⟩) ((0 + (k - kk)) + kk) cap202]) (by kernel_rfl) (((Build_c (id := 1) (l := ps.drop kk ++ ps.take kk) _ _ (by omega) (aa_q (hr5v.aa)) (Ext.refl _) hPT215 (Ext.refl _) (hT.ext hE)).mono fun _ _ h => h.eq (Prod.build_ok (by omega) hva (Prod.good_perm (Prod.turn_perm ps kk) hgl) (by rw [List.length_append, List.length_drop, List.length_take, hl]; omega)) rfl rfl).mono ?_))
    rintro e w230 ⟨a216, n217, k218, a219, n220, c221, rfl, hA222, hfr223, hP224, hnc225, hpl226, hb⟩
    replace hE := hE.trans hb; replace hX17 := hX17.trans hb; replace hX42 := hX42.trans hb; replace hr5v := hr5v.ext hb; replace bO9_0 := BoxAt.ext hb bO9_0; replace hV31 := hV31.ext hb; replace bO35_0 := BoxAt.ext hb bO35_0; replace bO35_1 := BoxAt.ext hb bO35_1; replace bO35_2 := BoxAt.ext hb bO35_2; replace bO35_3 := BoxAt.ext hb bO35_3; replace bO177_0 := BoxAt.ext hb bO177_0; replace bO177_1 := BoxAt.ext hb bO177_1; replace bO177_2 := BoxAt.ext hb bO177_2; replace bO177_3 := BoxAt.ext hb bO177_3; replace own205 := own205.ext hb; have hs231 := hb.size; clear hb
    obtain ⟨b227, o228, rfl, rfl, hV229⟩ := va_of hA222 (hva)
    have hfr223l := hfr223 _ rfl
    have lt232 := hV229.lt
    have hP224n : PcsS (fun k => w203.heap.size ≤ k ∧ k < w230.heap.size) w230 a219 n220 (Prod.divide ar (ps.drop kk ++ ps.take kk)) := PcsS.both hP224
    refine ⟨_, rfl, bO9_0.1, ?_⟩
    refine wT 11 (.tuple #[.agg #[.int .i64 1, .int .i64 1, .slice (some ⟨b227, o228, none⟩) 24 k218, .slice a219 n220 c221], .int .i64 0]) hR (fun w _ => by kernel_rfl) (bO9_0.1) ?_
    refine wT 12 (.agg #[.int .i64 1, .int .i64 1, .slice (some ⟨b227, o228, none⟩) 24 k218, .slice a219 n220 c221]) hR (fun w _ => by kernel_rfl) (bO9_0.1) ?_
    refine wT 13 (.int .i64 0) hR (fun w _ => by kernel_rfl) (bO9_0.1) ?_
    refine wS 15 hR (sn_setK4 (O := O177) (j := 0) (v0 := .int .i64 1) (v1 := .int .i64 1) (v2 := .slice (some ⟨b227, o228, none⟩) 24 k218) (v3 := .slice a219 n220 c221) (ex_store (p := .pointer (some ⟨O177, 0, none⟩)) (v := .agg #[.int .i64 1, .int .i64 1, .slice (some ⟨b227, o228, none⟩) 24 k218, .slice a219 n220 c221]) rfl (by kernel_rfl) (by kernel_rfl) (st31 bO177_0.1 bO177_0.2 bO177_1.1 bO177_1.2 bO177_2.1 bO177_2.2 bO177_3.1 bO177_3.2)) bO177_0 bO177_1 bO177_2 bO177_3 ?_)
    intro X233 ho hv0 hv1 hv2 hv3 hk; replace hE := ho.ext hE (T (T hs2 (T hs7 (T hs11 (T hs14 (T hs16 (T hs33 (T hs37 (T hs40 (T hs44 hs47))))))))) (Nat.le_of_eq hzO177)); replace hX17 := ho.ext hX17 (T (T hs33 (T hs37 (T hs40 (T hs44 hs47)))) (Nat.le_of_eq hzO177)); replace hX42 := ho.ext hX42 (T (T hs44 hs47) (Nat.le_of_eq hzO177)); replace hr5v := ho.va (Nat.ne_of_gt (Nat.lt_of_lt_of_le lt8 (T (T hs11 (T hs14 (T hs16 (T hs33 (T hs37 (T hs40 (T hs44 hs47))))))) (Nat.le_of_eq hzO177)))) hr5v; replace bO9_0 := ho.box (Nat.ne_of_gt (Nat.lt_of_lt_of_le lt12 (T (T hs14 (T hs16 (T hs33 (T hs37 (T hs40 (T hs44 hs47)))))) (Nat.le_of_eq hzO177)))) bO9_0; replace hV31 := ho.va (Nat.ne_of_gt (Nat.lt_of_lt_of_le lt34 (T (T hs37 (T hs40 (T hs44 hs47))) (Nat.le_of_eq hzO177)))) hV31
    have q9 := fun (j : Nat) (v : Value) (h : BoxAt _ O35 j v) => ho.box (Nat.ne_of_gt (Nat.lt_of_lt_of_le lt38 (T (T hs40 (T hs44 hs47)) (Nat.le_of_eq hzO177)))) h
    replace bO35_0 := q9 _ _ bO35_0; replace bO35_1 := q9 _ _ bO35_1; replace bO35_2 := q9 _ _ bO35_2; replace bO35_3 := q9 _ _ bO35_3; clear q9; replace hV229 := ho.va (Nat.ne_of_lt (Nat.lt_of_lt_of_le lt180 (T (T hs191 hs208) hfr223l))) hV229; replace hP224n := hP224n.turn ho (fun h => absurd h.1 (Nat.not_le_of_lt (Nat.lt_of_lt_of_le lt180 (T hs191 hs208)))); have hs234 : w230.heap.size ≤ X233.heap.size := Nat.le_of_eq ho.size.symm; clear ho hk bO177_0 bO177_1 bO177_2 bO177_3; have bO177_0 := hv0; clear hv0; have bO177_1 := hv1; clear hv1; have bO177_2 := hv2; clear hv2; have bO177_3 := hv3; clear hv3
    refine ⟨bO9_0.1, ?_⟩
    refine wT 16 (.int .i64 0) hR (fun w _ => by kernel_rfl) (bO9_0.1) ?_
    refine wd_end hL hR hK (by kernel_rfl) ?_
    have hPx235 := PcsS.pcs hP224n
    have hX236 : Ext X233 X233 := Ext.refl _
    exact qw_leaf hJ [10, 11, 12, 13] (ws' := [(10, .pointer (some ⟨O35, 0, none⟩)), (11, .int .i64 0), (12, .pointer (some ⟨O177, 0, none⟩)), (13, .int .i64 0)]) (by kernel_rfl) ⟨O45, b227, o228, k218, a219, n220, c221, O177, rfl, hE, hX17, hX42, hr5v, bO9_0, hV31, bO35_0, bO35_1, bO35_2, bO35_3, hnc225, hpl226, hV229, hPx235, bO177_0, bO177_1, bO177_2, bO177_3, (T hs44 (T hs47 (T hs179 (T hs191 (T hs208 (T hs231 hs234)))))), (T (T hs44 (T hs47 (T hs179 (T hs191 hs208)))) hfr223l), (T (T hs44 hs47) (Nat.le_of_eq hzO177)), Lib.hid (Nat.ne_of_gt (Nat.lt_of_lt_of_le lt180 (T (T hs191 hs208) hfr223l)))⟩
  ·
   refine sn_new (us := #[.int .i64 0, .int .i64 0, .slice none 0 0, .slice none 0 0]) (t := 31) (by kernel_rfl) ?_
   intro O237 X238 hzO237 hyO237 hb hbx; have ⟨bO237_0, bO237_1, bO237_2, bO237_3⟩ := bx4 hbx; clear hbx
   replace hE := hE.trans hb; replace hX17 := hX17.trans hb; replace hX42 := hX42.trans hb; replace hr5v := hr5v.ext hb; replace bO9_0 := BoxAt.ext hb bO9_0; replace hV31 := hV31.ext hb; replace bO35_0 := BoxAt.ext hb bO35_0; replace bO35_1 := BoxAt.ext hb bO35_1; replace bO35_2 := BoxAt.ext hb bO35_2; replace bO35_3 := BoxAt.ext hb bO35_3; have hs239 := hb.size; clear hb; have lt240 := bO237_0.lt
   refine ⟨bO9_0.1, ?_⟩
   refine wS 1 hR (sn_newS0 (t := 41) (by kernel_rfl) ?_)
   intro O241 X242 hO hOs hb hpO241
   have hzO241 := hO; have hyO241 : O241 < X242.heap.size := (by omega); clear hO hOs
   replace hE := hE.trans hb; replace hX17 := hX17.trans hb; replace hX42 := hX42.trans hb; replace hr5v := hr5v.ext hb; replace bO9_0 := BoxAt.ext hb bO9_0; replace hV31 := hV31.ext hb; replace bO35_0 := BoxAt.ext hb bO35_0; replace bO35_1 := BoxAt.ext hb bO35_1; replace bO35_2 := BoxAt.ext hb bO35_2; replace bO35_3 := BoxAt.ext hb bO35_3; replace bO237_0 := BoxAt.ext hb bO237_0; replace bO237_1 := BoxAt.ext hb bO237_1; replace bO237_2 := BoxAt.ext hb bO237_2; replace bO237_3 := BoxAt.ext hb bO237_3; have hs243 := hb.size; clear hb
   refine ⟨bO9_0.1, ?_⟩
   have ow244 : OwnL rawR O241 41 4 (.slice (some ⟨O241, 0, none⟩) 0 0) X242 [] := OwnL.empty rawR hpO241 (Nat.le_refl _)
   have hbk245 := ow244.lt; have ow244l : ([] : List RawPc).length = 0 := rfl
   have hl247 : (([]) ++ (rs.drop kk)).length = 0 + (k - kk) := by rw [List.length_append, ow244l, ((hRw.ext hX17).drop (k := kk) (c := c) (by omega) (by omega)).1]
   have hbs259 := ow244.base
   obtain ⟨g249, cap250, w251, hrun252, own253, hgr254, hgb255, hcap246, hor248⟩ := app_raws (c := c - kk) ow244 (Nat.le_of_lt (Nat.lt_of_lt_of_le hyO241 (Nat.le_refl _))) ow244l (Nat.le_refl 0) ((hRw.ext hX17).drop (k := kk) (c := c) (by omega) (by omega)) (by omega)
   refine wS 5 hR (sn_eff (v := .slice (some ⟨g249, 0, none⟩) (0 + (k - kk)) cap250) (w' := w251) (ex_append rfl (by kernel_rfl) (by kernel_rfl) hrun252) ?_)
   replace hr5v := VA.grownR hr5v hgb255 (own_not hbs259 (Nat.lt_of_lt_of_le lt8 (T (T hs11 (T hs14 (T hs16 (T hs33 (T hs37 (T hs40 (T hs44 hs239))))))) (Nat.le_of_eq hzO241)))); replace bO9_0 := BoxAt.grownR bO9_0 hgb255 (own_not hbs259 (Nat.lt_of_lt_of_le lt12 (T (T hs14 (T hs16 (T hs33 (T hs37 (T hs40 (T hs44 hs239)))))) (Nat.le_of_eq hzO241)))); replace hV31 := VA.grownR hV31 hgb255 (own_not hbs259 (Nat.lt_of_lt_of_le lt34 (T (T hs37 (T hs40 (T hs44 hs239))) (Nat.le_of_eq hzO241)))); replace bO35_0 := BoxAt.grownR bO35_0 hgb255 (own_not hbs259 (Nat.lt_of_lt_of_le lt38 (T (T hs40 (T hs44 hs239)) (Nat.le_of_eq hzO241)))); replace bO35_1 := BoxAt.grownR bO35_1 hgb255 (own_not hbs259 (Nat.lt_of_lt_of_le lt38 (T (T hs40 (T hs44 hs239)) (Nat.le_of_eq hzO241)))); replace bO35_2 := BoxAt.grownR bO35_2 hgb255 (own_not hbs259 (Nat.lt_of_lt_of_le lt38 (T (T hs40 (T hs44 hs239)) (Nat.le_of_eq hzO241)))); replace bO35_3 := BoxAt.grownR bO35_3 hgb255 (own_not hbs259 (Nat.lt_of_lt_of_le lt38 (T (T hs40 (T hs44 hs239)) (Nat.le_of_eq hzO241)))); replace bO237_0 := BoxAt.grownR bO237_0 hgb255 (own_not hbs259 (Nat.lt_of_lt_of_le lt240 (T (Nat.le_refl _) (Nat.le_of_eq hzO241)))); replace bO237_1 := BoxAt.grownR bO237_1 hgb255 (own_not hbs259 (Nat.lt_of_lt_of_le lt240 (T (Nat.le_refl _) (Nat.le_of_eq hzO241)))); replace bO237_2 := BoxAt.grownR bO237_2 hgb255 (own_not hbs259 (Nat.lt_of_lt_of_le lt240 (T (Nat.le_refl _) (Nat.le_of_eq hzO241)))); replace bO237_3 := BoxAt.grownR bO237_3 hgb255 (own_not hbs259 (Nat.lt_of_lt_of_le lt240 (T (Nat.le_refl _) (Nat.le_of_eq hzO241)))); replace hE := hgr254.ext _ hE (T (T hs2 (T hs7 (T hs11 (T hs14 (T hs16 (T hs33 (T hs37 (T hs40 (T hs44 hs239))))))))) (Nat.le_of_eq hzO241)); replace hX17 := hgr254.ext _ hX17 (T (T hs33 (T hs37 (T hs40 (T hs44 hs239)))) (Nat.le_of_eq hzO241)); replace hX42 := hgr254.ext _ hX42 (T (T hs44 hs239) (Nat.le_of_eq hzO241)); have hs256 := hgr254.size
   refine ⟨bO9_0.1, ?_⟩
   have hl257 := own253.base g249 rfl; have hh258 := own253.lt g249 rfl
   have hbk261 := own253.lt
   have hl263 : ((([]) ++ (rs.drop kk)) ++ (rs.take kk)).length = (0 + (k - kk)) + kk := by rw [List.length_append, hl247, ((hRw.ext hX17).take (k := kk) (by omega)).1]
   have hbs275 := own253.base
   obtain ⟨g265, cap266, w267, hrun268, own269, hgr270, hgb271, hcap262, hor264⟩ := app_raws (c := c) own253 (Nat.le_of_lt (Nat.lt_of_lt_of_le hyO241 hs256)) hl247 hcap246 ((hRw.ext hX17).take (k := kk) (by omega)) (by omega)
   refine wS 9 hR (sn_eff (v := .slice (some ⟨g265, 0, none⟩) ((0 + (k - kk)) + kk) cap266) (w' := w267) (ex_append rfl (by kernel_rfl) (by kernel_rfl) hrun268) ?_)
   replace hr5v := VA.grownR hr5v hgb271 (own_not hbs275 (Nat.lt_of_lt_of_le lt8 (T (T hs11 (T hs14 (T hs16 (T hs33 (T hs37 (T hs40 (T hs44 hs239))))))) (Nat.le_of_eq hzO241)))); replace bO9_0 := BoxAt.grownR bO9_0 hgb271 (own_not hbs275 (Nat.lt_of_lt_of_le lt12 (T (T hs14 (T hs16 (T hs33 (T hs37 (T hs40 (T hs44 hs239)))))) (Nat.le_of_eq hzO241)))); replace hV31 := VA.grownR hV31 hgb271 (own_not hbs275 (Nat.lt_of_lt_of_le lt34 (T (T hs37 (T hs40 (T hs44 hs239))) (Nat.le_of_eq hzO241)))); replace bO35_0 := BoxAt.grownR bO35_0 hgb271 (own_not hbs275 (Nat.lt_of_lt_of_le lt38 (T (T hs40 (T hs44 hs239)) (Nat.le_of_eq hzO241)))); replace bO35_1 := BoxAt.grownR bO35_1 hgb271 (own_not hbs275 (Nat.lt_of_lt_of_le lt38 (T (T hs40 (T hs44 hs239)) (Nat.le_of_eq hzO241)))); replace bO35_2 := BoxAt.grownR bO35_2 hgb271 (own_not hbs275 (Nat.lt_of_lt_of_le lt38 (T (T hs40 (T hs44 hs239)) (Nat.le_of_eq hzO241)))); replace bO35_3 := BoxAt.grownR bO35_3 hgb271 (own_not hbs275 (Nat.lt_of_lt_of_le lt38 (T (T hs40 (T hs44 hs239)) (Nat.le_of_eq hzO241)))); replace bO237_0 := BoxAt.grownR bO237_0 hgb271 (own_not hbs275 (Nat.lt_of_lt_of_le lt240 (T (Nat.le_refl _) (Nat.le_of_eq hzO241)))); replace bO237_1 := BoxAt.grownR bO237_1 hgb271 (own_not hbs275 (Nat.lt_of_lt_of_le lt240 (T (Nat.le_refl _) (Nat.le_of_eq hzO241)))); replace bO237_2 := BoxAt.grownR bO237_2 hgb271 (own_not hbs275 (Nat.lt_of_lt_of_le lt240 (T (Nat.le_refl _) (Nat.le_of_eq hzO241)))); replace bO237_3 := BoxAt.grownR bO237_3 hgb271 (own_not hbs275 (Nat.lt_of_lt_of_le lt240 (T (Nat.le_refl _) (Nat.le_of_eq hzO241)))); replace hE := hgr270.ext _ hE (T (T hs2 (T hs7 (T hs11 (T hs14 (T hs16 (T hs33 (T hs37 (T hs40 (T hs44 hs239))))))))) (Nat.le_of_eq hzO241)); replace hX17 := hgr270.ext _ hX17 (T (T hs33 (T hs37 (T hs40 (T hs44 hs239)))) (Nat.le_of_eq hzO241)); replace hX42 := hgr270.ext _ hX42 (T (T hs44 hs239) (Nat.le_of_eq hzO241)); have hs272 := hgr270.size
   refine ⟨bO9_0.1, ?_⟩
   have hl273 := own269.base g265 rfl; have hh274 := own269.lt g265 rfl
   have hbk277 := own269.lt
   have hPT278 : PcsAt w267 (some ⟨g265, 0, none⟩) ((0 + (k - kk)) + kk) (ps.drop kk ++ ps.take kk) := ⟨_, raws_own own269 hl263 (by omega), (((hrd.drop kk).app (hrd.take kk)).ext hX17)⟩
   refine wS 10 hR (sn_call (f := 11) (args := #[.int .i64 1, .agg #[.slice (some ⟨B3, 0, none⟩) 24 24], .slice (some ⟨g265, 0, none⟩) ((0 + (k - kk)) + kk) cap266]) (by kernel_rfl) (((Build_c (id := 1) (l := ps.drop kk ++ ps.take kk) _ _ (by omega) (aa_q (hr5v.aa)) (Ext.refl _) hPT278 (Ext.refl _) (hT.ext hE)).mono fun _ _ h => h.eq (Prod.build_ok (by omega) hva (Prod.good_perm (Prod.turn_perm ps kk) hgl) (by rw [List.length_append, List.length_drop, List.length_take, hl]; omega)) rfl rfl).mono ?_))
   rintro e w293 ⟨a279, n280, k281, a282, n283, c284, rfl, hA285, hfr286, hP287, hnc288, hpl289, hb⟩
   replace hE := hE.trans hb; replace hX17 := hX17.trans hb; replace hX42 := hX42.trans hb; replace hr5v := hr5v.ext hb; replace bO9_0 := BoxAt.ext hb bO9_0; replace hV31 := hV31.ext hb; replace bO35_0 := BoxAt.ext hb bO35_0; replace bO35_1 := BoxAt.ext hb bO35_1; replace bO35_2 := BoxAt.ext hb bO35_2; replace bO35_3 := BoxAt.ext hb bO35_3; replace bO237_0 := BoxAt.ext hb bO237_0; replace bO237_1 := BoxAt.ext hb bO237_1; replace bO237_2 := BoxAt.ext hb bO237_2; replace bO237_3 := BoxAt.ext hb bO237_3; replace own269 := own269.ext hb; have hs294 := hb.size; clear hb
   obtain ⟨b290, o291, rfl, rfl, hV292⟩ := va_of hA285 (hva)
   have hfr286l := hfr286 _ rfl
   have lt295 := hV292.lt
   have hP287n : PcsS (fun k => w267.heap.size ≤ k ∧ k < w293.heap.size) w293 a282 n283 (Prod.divide ar (ps.drop kk ++ ps.take kk)) := PcsS.both hP287
   refine ⟨_, rfl, bO9_0.1, ?_⟩
   refine wT 11 (.tuple #[.agg #[.int .i64 1, .int .i64 1, .slice (some ⟨b290, o291, none⟩) 24 k281, .slice a282 n283 c284], .int .i64 0]) hR (fun w _ => by kernel_rfl) (bO9_0.1) ?_
   refine wT 12 (.agg #[.int .i64 1, .int .i64 1, .slice (some ⟨b290, o291, none⟩) 24 k281, .slice a282 n283 c284]) hR (fun w _ => by kernel_rfl) (bO9_0.1) ?_
   refine wT 13 (.int .i64 0) hR (fun w _ => by kernel_rfl) (bO9_0.1) ?_
   refine wS 15 hR (sn_setK4 (O := O237) (j := 0) (v0 := .int .i64 1) (v1 := .int .i64 1) (v2 := .slice (some ⟨b290, o291, none⟩) 24 k281) (v3 := .slice a282 n283 c284) (ex_store (p := .pointer (some ⟨O237, 0, none⟩)) (v := .agg #[.int .i64 1, .int .i64 1, .slice (some ⟨b290, o291, none⟩) 24 k281, .slice a282 n283 c284]) rfl (by kernel_rfl) (by kernel_rfl) (st31 bO237_0.1 bO237_0.2 bO237_1.1 bO237_1.2 bO237_2.1 bO237_2.2 bO237_3.1 bO237_3.2)) bO237_0 bO237_1 bO237_2 bO237_3 ?_)
   intro X296 ho hv0 hv1 hv2 hv3 hk; replace hE := ho.ext hE (T (T hs2 (T hs7 (T hs11 (T hs14 (T hs16 (T hs33 (T hs37 (T hs40 hs44)))))))) (Nat.le_of_eq hzO237)); replace hX17 := ho.ext hX17 (T (T hs33 (T hs37 (T hs40 hs44))) (Nat.le_of_eq hzO237)); replace hX42 := ho.ext hX42 (T hs44 (Nat.le_of_eq hzO237)); replace hr5v := ho.va (Nat.ne_of_gt (Nat.lt_of_lt_of_le lt8 (T (T hs11 (T hs14 (T hs16 (T hs33 (T hs37 (T hs40 hs44)))))) (Nat.le_of_eq hzO237)))) hr5v; replace bO9_0 := ho.box (Nat.ne_of_gt (Nat.lt_of_lt_of_le lt12 (T (T hs14 (T hs16 (T hs33 (T hs37 (T hs40 hs44))))) (Nat.le_of_eq hzO237)))) bO9_0; replace hV31 := ho.va (Nat.ne_of_gt (Nat.lt_of_lt_of_le lt34 (T (T hs37 (T hs40 hs44)) (Nat.le_of_eq hzO237)))) hV31
   have q9 := fun (j : Nat) (v : Value) (h : BoxAt _ O35 j v) => ho.box (Nat.ne_of_gt (Nat.lt_of_lt_of_le lt38 (T (T hs40 hs44) (Nat.le_of_eq hzO237)))) h
   replace bO35_0 := q9 _ _ bO35_0; replace bO35_1 := q9 _ _ bO35_1; replace bO35_2 := q9 _ _ bO35_2; replace bO35_3 := q9 _ _ bO35_3; clear q9; replace hV292 := ho.va (Nat.ne_of_lt (Nat.lt_of_lt_of_le lt240 (T (T hs243 (T hs256 hs272)) hfr286l))) hV292; replace hP287n := hP287n.turn ho (fun h => absurd h.1 (Nat.not_le_of_lt (Nat.lt_of_lt_of_le lt240 (T hs243 (T hs256 hs272))))); have hs297 : w293.heap.size ≤ X296.heap.size := Nat.le_of_eq ho.size.symm; clear ho hk bO237_0 bO237_1 bO237_2 bO237_3; have bO237_0 := hv0; clear hv0; have bO237_1 := hv1; clear hv1; have bO237_2 := hv2; clear hv2; have bO237_3 := hv3; clear hv3
   refine ⟨bO9_0.1, ?_⟩
   refine wT 16 (.int .i64 0) hR (fun w _ => by kernel_rfl) (bO9_0.1) ?_
   refine wd_end hL hR hK (by kernel_rfl) ?_
   have hPx298 := PcsS.pcs hP287n
   have hX299 : Ext X296 X296 := Ext.refl _
   exact qw_leaf hJ [10, 11, 12, 13] (ws' := [(10, .pointer (some ⟨O35, 0, none⟩)), (11, .int .i64 0), (12, .pointer (some ⟨O237, 0, none⟩)), (13, .int .i64 0)]) (by kernel_rfl) ⟨O241, b290, o291, k281, a282, n283, c284, O237, rfl, hE, hX17, hX42, hr5v, bO9_0, hV31, bO35_0, bO35_1, bO35_2, bO35_3, hnc288, hpl289, hV292, hPx298, bO237_0, bO237_1, bO237_2, bO237_3, (T hs44 (T hs239 (T hs243 (T hs256 (T hs272 (T hs294 hs297)))))), (T (T hs44 (T hs239 (T hs243 (T hs256 hs272)))) hfr286l), (T hs44 (Nat.le_of_eq hzO237)), Lib.hid (Nat.ne_of_gt (Nat.lt_of_lt_of_le lt240 (T (T hs243 (T hs256 hs272)) hfr286l)))⟩
 ·
  clear hr5v bO9_0 hV31 bO35_0 bO35_1 bO35_2 bO35_3 hE hX17 hX42
  rintro L ws Y300 ⟨O45, b94, o95, k85, a86, n87, c88, O100, rfl, hE, hX17, hX42, hr5v, bO9_0, hV31, bO35_0, bO35_1, bO35_2, bO35_3, hnc92, hpl93, hV96, hPx106, bO100_0, bO100_1, bO100_2, bO100_3, hn301, hn302, hn303, hn304⟩
  have hX305 : Ext Y300 Y300 := Ext.refl _; have lt306 := hV96.lt; have lt307 := bO100_0.lt; refine qw_then ?_; refine cw_seq ?_; refine cw_plain ?_; refine pT (.int .i64 0) ?_; refine pT (.bool true) ?_; refine pT (.bool true) ?_; refine pT (.int .i64 0) ?_; refine pT (.bool true) ?_; refine pT (.bool true) ?_; refine pT (.bool true) ?_
  refine pU (.agg #[.int .i64 1, .int .i64 1, .slice (some ⟨b29, o30, none⟩) 24 k20, .slice a21 n22 c23]) (ex_load rfl (by kernel_rfl) (ld31 (bO35_0.1) (bO35_1.1) (bO35_2.1) (bO35_3.1))) ?_
  refine pU (.agg #[.int .i64 1, .int .i64 1, .slice (some ⟨b94, o95, none⟩) 24 k85, .slice a86 n87 c88]) (ex_load rfl (by kernel_rfl) (ld31 (bO100_0.1) (bO100_1.1) (bO100_2.1) (bO100_3.1))) ?_
  refine pS (sn_call (f := 20) (args := #[.agg #[.int .i64 1, .int .i64 1, .slice (some ⟨b29, o30, none⟩) 24 k20, .slice a21 n22 c23], .agg #[.int .i64 1, .int .i64 1, .slice (some ⟨b94, o95, none⟩) 24 k85, .slice a86 n87 c88]]) (by kernel_rfl) ((rpSame_r (r := true) (id := 1) (ver := 1) (id2 := 1) (ver2 := 1) _ _ _ _ _ (aa_q (hV31.aa)) (Ext.refl _) (hPx41) hX42 (aa_q (hV96.aa)) (Ext.refl _) (hPx106) (Ext.refl _) (by rw [← Prod.divide_perm (Prod.turn_perm ps kk) hgl]; exact Prod.sameP_refl _ _ _ _)).mono ?_))
  rintro e w308 ⟨rfl, hb⟩
  replace hE := hE.trans hb; replace hX17 := hX17.trans hb; replace hX42 := hX42.trans hb; replace hX305 := hX305.trans hb; replace hr5v := hr5v.ext hb; replace bO9_0 := BoxAt.ext hb bO9_0; replace hV31 := hV31.ext hb; replace bO35_0 := BoxAt.ext hb bO35_0; replace bO35_1 := BoxAt.ext hb bO35_1; replace bO35_2 := BoxAt.ext hb bO35_2; replace bO35_3 := BoxAt.ext hb bO35_3; replace hV96 := hV96.ext hb; replace bO100_0 := BoxAt.ext hb bO100_0; replace bO100_1 := BoxAt.ext hb bO100_1; replace bO100_2 := BoxAt.ext hb bO100_2; replace bO100_3 := BoxAt.ext hb bO100_3; have hs309 := hb.size; clear hb
  refine ⟨_, rfl, ?_⟩
  refine pT (.bool true) ?_; refine pT (.bool true) ?_; refine pl_nil ?_; refine qw_then ?_; refine cC1 6 (fun L => ?_)
  refine cw_ret ?_
  refine qw_ret [.bool true] rfl ⟨(by kernel_rfl), trivial⟩ ?_
  exact ⟨rfl, hE⟩

end Go.Proofs.YtajdohcgjgknmaaDoor

/- The statement ProductOrder: for every input the law returns true, and every argument reads as it read before; the two tables of package math/bits that the row lists are tied to the program's text. -/
namespace Go.Proofs.YtajdohcgjgknmaaDoor
open Go.ChangeShapes Go.WideShapes Go.ChangeAt Go.RowKit

set_option maxRecDepth 100000 in
theorem ProductOrder_lifted (os : Os) (started : os.Started) (H : Type) (enc : TypeId × Value → H) :
  ReturnsInHanded {} Tryd.checked os 4 .any (fun w args => (Rows.productOrderSpec.pre enc Tryd.prog Tryd.f4 [] false w args ∧ laidMetH Tryd.prog laidTabs w) ∧ sizedMet enc Tryd.prog Tryd.f4 (OpenSpec.ofChange Rows.productOrderSpec) false w args)
   (Rows.productOrderSpec.post enc Tryd.prog Tryd.f4 false true false false) := by
 refine returnsInHanded_of_change_and (C := Tryd.checked) (X := fun w _ => laidMetH Tryd.prog laidTabs w) (fun _ _ _ hh h => h.of_heap hh) own started (by kernel_rfl) Tryd.func4
  (ChangeSpec.witness_shaped (enc := enc) (C := Tryd.checked) (os := os) (X := fun w _ => laidMetH Tryd.prog laidTabs w) false (World.doorLaid Tryd.prog 19 os) #[.slice none 0 0, .slice none 0 0, .int .i64 0] 8 rfl (World.shaped_of_RefB (by kernel_rfl) (by kernel_rfl)) (by kernel_rfl) (by kernel_rfl) (by kernel_rfl) (door_met os _)) ?_
 intro W base args ds gs before hval0 hW _ hsz hL _
 have hval : ∀ (j : Nat) t v, Tryd.f4.params[j]? = some t → args[j]? = some v → Value.okWide Tryd.prog W .any base t v := hval0
 have hW' := hW
 obtain ⟨p, q, hA0, hV, rfl, hfz, hnd⟩ := hW
 have hA : DataW.TrodAll enc Tryd.prog W 0 (fun _ => true) true Tryd.f4.params.toList args.toList ds p := hA0
 rw [Tryd.params4] at hA hval
 obtain ⟨v0, vs0, d0, ds0, p0, q0, hargs, rfl, rfl, h0, r0⟩ := trodAll_cons hA
 obtain ⟨v1, vs1, d1, ds1, p1, q1, rfl, rfl, rfl, h1, r1⟩ := trodAll_cons r0
 obtain ⟨v2, vs2, d2, ds2, p2, q2, rfl, rfl, rfl, h2, r2⟩ := trodAll_cons r1
 obtain ⟨rfl, rfl, rfl⟩ := trodAll_nil r2
 obtain rfl : args = #[v0, v1, v2] := by cases args; simp_all
 obtain ⟨rfl, rfl⟩ := trodVars_none hV
 have k0 := h0
 have lt0 : ∀ x ∈ p0, x.block < W.heap.size := by obtain ⟨m, hm⟩ := k0; exact DataW.trod_lt m _ _ _ hm
 have op0 := open_quads (hval 0 _ v0 rfl rfl) h0
 have k1 := h1
 have lt1 : ∀ x ∈ p1, x.block < W.heap.size := by obtain ⟨m, hm⟩ := k1; exact DataW.trod_lt m _ _ _ hm
 have op1 := open_quads (hval 1 _ v1 rfl rfl) h1
 obtain ⟨a2, rfl, rfl, rfl, w2⟩ := open_int Tryd.underlying3 (hval 2 3 v2 rfl rfl) h2
 clear hA0 hval0
 refine (ProductOrder_walk W v0 op0 v1 op1 a2 (isI_of_wf w2) (tab_of_laid hL)).mono fun e W' ⟨he, hE⟩ => ?_
 subst he
 have bel : Below W.heap.size W W' := hE
 exact ⟨_, rfl, _, _, _, [], _, [], hW', trodAll_mk1 (shut_bool Tryd.underlying4 _), (trodAll_cons_mk (Below.trod laidOut (by kernel_rfl) (of_decide_eq_true (by kernel_rfl)) k0 bel lt0) (trodAll_cons_mk (Below.trod laidOut (by kernel_rfl) (of_decide_eq_true (by kernel_rfl)) k1 bel lt1) (trodAll_cons_mk (shut_int Tryd.underlying3 w2) trodAll_mk0))), rfl, bel.frame _, fun h => by cases h⟩

theorem ProductOrder_over : Rows.ProductOrderSaid :=
 OpenClaim.holds_of_wide 4 Tryd.f4 rfl rfl rfl rfl rfl rfl rfl ⟨rfl, rfl, rfl, rfl, rfl⟩ rfl rfl rfl rfl rfl (by kernel_rfl) Tryd.func4 (by kernel_rfl)
  (of_decide_eq_true (by kernel_rfl)) (by unfold Func.isWrapper; first | (rw [if_pos (by decide +kernel)]; kernel_rfl) | (rw [if_neg (by decide +kernel)]; exact ⟨rfl, rfl⟩))
  (fun os started H enc _ => ProductOrder_lifted os started H enc)

/-- The tied card. -/
theorem ProductOrder_holds : Rows.ProductOrderCardSaid :=
 Claim7.holds_tied_plain_at .later [] [.data, .data] true (true, "8b5a7a53c537ff8737778701348fb3568628a2c5eeac7583eb34b5657efa7458") false
  ProductOrder_over (fun _ h => by cases h) (by kernel_rfl) (fun _ h => by cases h) productOrder_row_tie rfl ⟨rfl, rfl⟩ (by kernel_rfl) rfl
  (fun f fn hf hfn => by
   obtain rfl : f = 4 := Option.some.inj ((show Tryd.prog.funcNamed "nadir/nadirlaw31.ProductOrder" = some 4 by kernel_rfl).symm.trans hf) |>.symm
   obtain rfl : fn = Tryd.f4 := (Option.some.inj (Tryd.func4.symm.trans hfn)).symm
   exact ⟨by kernel_rfl, fun j t ht => by
    rw [Tryd.params4] at ht
    have hm : t ∈ [22, 22, 3] := by simpa using Array.mem_of_getElem? ht
    have hall : ([22, 22, 3].all fun u => !Tryd.prog.wantsStandIn u) = true := by kernel_rfl
    exact (show Tryd.prog.wantsStandIn t = false by simpa using List.all_eq_true.1 hall t hm)⟩)
  (by kernel_rfl)
#print axioms ProductOrder_holds
end Go.Proofs.YtajdohcgjgknmaaDoor
