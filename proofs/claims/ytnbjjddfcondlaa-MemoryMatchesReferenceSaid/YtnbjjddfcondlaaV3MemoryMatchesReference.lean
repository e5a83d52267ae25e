/- Part 3 of what the proof of MemoryMatchesReference stands on. -/
import Derived.Test.YtnbjjddfcondlaaV2MemoryMatchesReference
import Derived.Sort.OwnSortedInts
import Derived.Shelf.SlicesG.CompactI
import Derived.Shelf.SlicesG.SearchI
import Derived.Shelf.SlicesE.Clone
import Derived.Lib.RowBridge
/- Contracts of package memory: Fill, Most, Over, Room. -/
namespace Go.Proofs.Ytnbjjddfcondlaa
open Go.RowKit

namespace Mem
def ansE (b : Bool) : Int := if b then 0 else 110
def ansV (b : Bool) (v : Int) : Int := if b then v else 0
theorem ansV_t (v : Int) : ansV true v = v := rfl
theorem fill_bd {l : List St} (h : okL l = true) (t : Int) : 0 ≤ fill l t ∧ fill l t ≤ 24000000 := by
  refine ⟨fill_nonneg (okL_u h) t, ?_⟩
  have key : ∀ m : List St, (∀ x ∈ m, x.un ≤ 1000000) → fill m t ≤ 1000000 * m.length := by
    intro m
    induction m with
    | nil => intro _; exact Int.le_refl _
    | cons x m ih =>
      intro hm
      have h1 := ih fun y hy => hm y (by simp [hy])
      have h2 := hm x (by simp)
      rw [fill_cons, List.length_cons]
      have h3 : part t x ≤ 1000000 := by unfold part; split <;> omega
      omega
  have h1 := key l fun x hx => (okL_at h hx).2.1.2
  have := okL_len h
  omega
theorem take_next {E : List Stp} {i : Nat} (hi : i < E.length) : E.take (i + 1) = E.take i ++ [stpN E i] := by rw [List.take_add_one, stpN_at hi]; rfl
theorem lastV_next {E : List Stp} {i : Nat} (hi : i < E.length) : lastV (E.take (i + 1)) = (stpN E i).2 := by rw [take_next hi, lastV_snoc]
theorem le_next {E : List Stp} {i : Nat} {P : Stp → Prop} (h : ∀ (j : Nat) q, j < i → E[j]? = some q → P q) (hi : i < E.length) (hp : P (stpN E i)) : ∀ (j : Nat) q, j < i + 1 → E[j]? = some q → P q := fun j q hj hq => by
  rcases Nat.eq_or_lt_of_le (show j ≤ i by omega) with rfl | hj
  · rw [stpN_at hi] at hq; cases hq; exact hp
  · exact h j q hj hq
theorem most_next {E : List Stp} {i : Nat} (hi : i < E.length) : mostGo (0, -1) (E.take (i + 1)) = if (mostGo (0, -1) (E.take i)).1 < (stpN E i).2 then ((stpN E i).2, (stpN E i).1) else mostGo (0, -1) (E.take i) := by
  rw [take_next hi, mostGo_app]; rfl
theorem room_next {E : List Stp} {i : Nat} {f : Int} (hi : i < E.length) : (E.take (i + 1)).foldl (roomStep f) (0, 0) = (if f < (stpN E i).1 then max ((E.take i).foldl (roomStep f) (0, 0)).1 ((E.take i).foldl (roomStep f) (0, 0)).2 else ((E.take i).foldl (roomStep f) (0, 0)).1, (stpN E i).2) := by
  rw [take_next hi, List.foldl_append]; rfl
theorem most_answer {l : List St} (hu : ∀ x ∈ l, okU x) : mostGo (0, -1) (evL l) = mostR l := by
  obtain ⟨h1, h2⟩ := (most_is hu (evL_fills l)).uniq (mostR_is hu)
  exact Prod.ext h1 h2
theorem over_yes {l : List St} (hu : ∀ x ∈ l, okU x) (hf : ∀ x ∈ l, 0 ≤ x.fr) {lim : Int} (h0 : 0 ≤ lim) {i : Nat} (hi : i < (evL l).length) (hlt : (stpN (evL l) i).2 > lim) (hn : ∀ (j : Nat) q, j < i → (evL l)[j]? = some q → q.2 ≤ lim) : (stpN (evL l) i).1 = overR l lim :=
  (over_found hu (evL_fills l) h0 (stpN_at hi) hlt hn).uniq (overR_is hu hf h0)
theorem over_no {l : List St} (hu : ∀ x ∈ l, okU x) (hf : ∀ x ∈ l, 0 ≤ x.fr) {lim : Int} (h0 : 0 ≤ lim) (hn : ∀ (j : Nat) q, j < (chg l).length → (evL l)[j]? = some q → q.2 ≤ lim) : -1 = overR l lim :=
  (over_none (evL_fills l) h0 fun p hp => by
    obtain ⟨j, hj⟩ := List.getElem?_of_mem hp
    exact hn j p (by rw [← evL_len]; exact (List.getElem?_eq_some_iff.1 hj).1) hj).uniq (overR_is hu hf h0)
end Mem
set_option maxRecDepth 1000000 in
set_option maxHeartbeats 4000000 in
theorem Fill_c {w0 : World} {a : Option Addr} {n : Nat} {l : List Mem.St} (at9 : Int) (c : Nat) (w : World) (h : StsAt w0 a n l) (e0 : Ext w0 w) : Calls Try.prog 20 #[.slice a n c, .int .i64 at9] w fun e w' => e = .returned (.tuple #[.int .i64 (Mem.ansV (Mem.okL l && Globe.inB at9 0 1000000) (Mem.fill l at9)), .int .i64 (Mem.ansE (Mem.okL l && Globe.inB at9 0 1000000))]) ∧ Ext w w' := by
  have hln := h.1; have hmx := h.2.1
  have hs0 := e0.size
  refine icalls_cw 26 [(1, .int .i64 (at9 : Int)), (0, .slice a n c)] Try.func20 rfl Try.ntmps20 (by kernel_rfl) (by kernel_rfl) (fun L mm => ?_)
  have hE : Ext w w := Ext.refl w
  refine icw_seq ?_
  refine icw_plain ?_
  refine ipl_step rfl (by kernel_rfl) (by kernel_rfl) (by kernel_rfl) (sn_new (us := #[.int .i64 (at9 : Int)]) (t := 3) (by kernel_rfl) ?_)
  intro O1 X2 hO hOs hb hbx
  have hzO1 := hO; have hyO1 := hOs; clear hO hOs
  have bO1_0 : BoxAt X2 O1 0 (.int .i64 (at9 : Int)) := hbx 0 _ rfl
  clear hbx
  replace e0 := e0.trans hb
  replace hE := hE.trans hb
  have hs3 := hb.size
  clear hb
  have lt4 := bO1_0.lt
  refine ipl_take (.int .i64 0) rfl (by kernel_rfl) (by kernel_rfl) (by kernel_rfl) (by kernel_rfl) ?_
  refine ipl_take (.int .i64 0) rfl (by kernel_rfl) (by kernel_rfl) (by kernel_rfl) (by kernel_rfl) ?_
  refine ipl_nil ?_
  refine iqw_then ?_
  refine icw_seq ?_
  refine icw_seq ?_
  refine icw_plain ?_
  refine ipl_take (.slice a n c) rfl (by kernel_rfl) (by kernel_rfl) (by kernel_rfl) (by kernel_rfl) ?_
  rcases Bool.eq_false_or_eq_true (Mem.okL l) with hb5 | hb5
  ·
    refine ipl_step rfl (by kernel_rfl) (by kernel_rfl) (by kernel_rfl) (sn_call (f := 18) (args := #[.slice a n c]) (by kernel_rfl) ((Valid_r (l := l) (r := true) _ _ h e0 hb5).mono ?_))
    rintro e w6 ⟨rfl, hb⟩
    replace e0 := e0.trans hb
    replace hE := hE.trans hb
    replace bO1_0 := BoxAt.ext hb bO1_0
    have hs7 := hb.size
    clear hb
    refine ⟨_, rfl, ?_⟩
    refine ipl_take (.bool false) rfl (by kernel_rfl) (by kernel_rfl) (by kernel_rfl) (by kernel_rfl) ?_
    refine ipl_take (.bool false) rfl (by kernel_rfl) (by kernel_rfl) (by kernel_rfl) (by kernel_rfl) ?_
    refine ipl_take (.int .i64 (at9 : Int)) rfl (by kernel_rfl) (by kernel_rfl) (by kernel_rfl) (ex_load rfl (by kernel_rfl) (ld3 (bO1_0.1))) ?_
    rcases Bool.eq_false_or_eq_true (Globe.inB at9 0 1000000) with hb8 | hb8
    ·
      have hq9 := Globe.inB_t.1 hb8
      refine ipl_step rfl (by kernel_rfl) (by kernel_rfl) (by kernel_rfl) (sn_call (f := 46) (args := #[.int .i64 (at9 : Int), .int .i64 0, .int .i64 1000000]) (by kernel_rfl) ((memory_isIn_r (r := true) at9 0 1000000 _ (hb8)).mono ?_))
      rintro e w10 ⟨rfl, hb⟩
      replace e0 := e0.trans hb
      replace hE := hE.trans hb
      replace bO1_0 := BoxAt.ext hb bO1_0
      have hs11 := hb.size
      clear hb
      refine ⟨_, rfl, ?_⟩
      refine ipl_take (.bool false) rfl (by kernel_rfl) (by kernel_rfl) (by kernel_rfl) (by kernel_rfl) ?_
      refine ipl_take (.bool false) rfl (by kernel_rfl) (by kernel_rfl) (by kernel_rfl) (by kernel_rfl) ?_
      refine ipl_nil ?_
      refine iqw_then ?_
      refine icw_f (by kernel_rfl) ?_
      refine icw_skip ?_
      refine iqw_then ?_
      refine icw_seq ?_
      refine icw_plain ?_
      refine ipl_step rfl (by kernel_rfl) (by kernel_rfl) (by kernel_rfl) (sn_new (us := #[.int .i64 0]) (t := 3) (by kernel_rfl) ?_)
      intro O12 X13 hO hOs hb hbx
      have hzO12 := hO; have hyO12 := hOs; clear hO hOs
      have bO12_0 : BoxAt X13 O12 0 (.int .i64 0) := hbx 0 _ rfl
      clear hbx
      replace e0 := e0.trans hb
      replace hE := hE.trans hb
      replace bO1_0 := BoxAt.ext hb bO1_0
      have hs14 := hb.size
      clear hb
      have lt15 := bO12_0.lt
      refine ipl_put rfl (by kernel_rfl) (by kernel_rfl) (sn_set (O := O12) (j := 0) (v := .int .i64 0) (ex_store (p := .pointer (some ⟨O12, 0, none⟩)) (v := .int .i64 0) rfl (by kernel_rfl) (by kernel_rfl) (st3 bO12_0.1 bO12_0.2)) bO12_0 ?_)
      intro X16 ho hv0 hk
      replace e0 := ho.ext e0 (Nat.le_trans (Nat.le_trans hs0 (Nat.le_trans hs3 (Nat.le_trans hs7 hs11))) (Nat.le_of_eq hzO12))
      replace hE := ho.ext hE (Nat.le_trans (Nat.le_trans hs3 (Nat.le_trans hs7 hs11)) (Nat.le_of_eq hzO12))
      replace bO1_0 := ho.box (Nat.ne_of_gt (Nat.lt_of_lt_of_le lt4 (Nat.le_trans (Nat.le_trans hs7 hs11) (Nat.le_of_eq hzO12)))) bO1_0
      have hs17 : X13.heap.size ≤ X16.heap.size := Nat.le_of_eq ho.size.symm
      clear ho hk bO12_0
      have bO12_0 := hv0; clear hv0
      refine ipl_nil ?_
      refine iqw_then ?_
      refine icw_seq ?_
      refine icw_seq ?_
      refine icw_plain ?_
      refine ipl_take (.slice a n c) rfl (by kernel_rfl) (by kernel_rfl) (by kernel_rfl) (by kernel_rfl) ?_
      refine ipl_step rfl (by kernel_rfl) (by kernel_rfl) (by kernel_rfl) (sn_call (f := 33) (args := #[.slice a n c]) (by kernel_rfl) ((fills_c _ _ _ _).mono ?_))
      rintro e w21 ⟨B18, rfl, hn19, hc20, hb⟩
      replace e0 := e0.trans hb
      replace hE := hE.trans hb
      replace bO1_0 := BoxAt.ext hb bO1_0
      replace bO12_0 := BoxAt.ext hb bO12_0
      have hs22 := hb.size
      clear hb
      have lt23 := World.block_lt_of_cell? _ _ hc20
      refine ⟨_, rfl, ?_⟩
      refine ipl_nil ?_
      refine iqw_then ?_
      refine icw_clean [3, 6, 18] (ws' := [(3, .pointer (some ⟨O1, 0, none⟩)), (6, .pointer (some ⟨O12, 0, none⟩)), (18, .func (.func 51) #[] #[.pointer (some ⟨B18, 0, none⟩)])]) (by kernel_rfl) (fun L => ?_)
      refine icw_block ?_
      have hok9 := hb5
      refine icw_range (ps := [19, 20]) (by kernel_rfl) (enters_of Try.func51 (by kernel_rfl) rfl) (fills_seq (X := (fun k => k = O12)) h hok9 e0 hc20 (fun k hk => hk ▸ (Nat.lt_of_lt_of_le lt15 (Nat.le_trans hs17 hs22)))) (Ext.refl _) (fun _ => rfl) (by kernel_rfl) (fun i W => w21.heap.size ≤ W.heap.size ∧ Ext w0 W ∧ Ext w W ∧ BoxAt W O1 0 (.int .i64 (at9 : Int)) ∧ W.cell? ⟨B18, 0, none⟩ = some (.slice a n c) ∧ BoxAt W O12 0 (.int .i64 (Mem.lastV ((Mem.evL l).take i) : Int)) ∧ (∀ (j : Nat) q, j < i → (Mem.evL l)[j]? = some q → q.1 ≤ at9)) (fun cd9 i W => cd9 = .exit 0 ∧ w21.heap.size ≤ W.heap.size ∧ Ext w0 W ∧ Ext w W ∧ BoxAt W O1 0 (.int .i64 (at9 : Int)) ∧ W.cell? ⟨B18, 0, none⟩ = some (.slice a n c) ∧ BoxAt W O12 0 (.int .i64 (Mem.lastV ((Mem.evL l).take i) : Int)) ∧ (∀ (j : Nat) q, j < i → (Mem.evL l)[j]? = some q → q.1 ≤ at9) ∧ (∀ q, (Mem.evL l)[i]? = some q → at9 < q.1)) (fun i A B h hm => by obtain ⟨hsz, e0, hE, bO1_0, hc20, b9, hle⟩ := h; exact ⟨Nat.le_trans hsz hm.size, hm.ext e0 (Nat.le_trans hs0 (Nat.le_trans hs3 (Nat.le_trans hs7 (Nat.le_trans hs11 (Nat.le_trans hs14 (Nat.le_trans hs17 hs22)))))), hm.ext hE (Nat.le_trans hs3 (Nat.le_trans hs7 (Nat.le_trans hs11 (Nat.le_trans hs14 (Nat.le_trans hs17 hs22))))), hm.box bO1_0, hm.cell hc20, hm.box b9, hle⟩) (fun cd9 i A B h hm => by obtain ⟨rfl, hsz, e0, hE, bO1_0, hc20, b9, hle, hgt⟩ := h; exact ⟨rfl, Nat.le_trans hsz hm.size, hm.ext e0 (Nat.le_trans hs0 (Nat.le_trans hs3 (Nat.le_trans hs7 (Nat.le_trans hs11 (Nat.le_trans hs14 (Nat.le_trans hs17 hs22)))))), hm.ext hE (Nat.le_trans hs3 (Nat.le_trans hs7 (Nat.le_trans hs11 (Nat.le_trans hs14 (Nat.le_trans hs17 hs22))))), hm.box bO1_0, hm.cell hc20, hm.box b9, hle, hgt⟩) ⟨Nat.le_refl _, e0, hE, bO1_0, hc20, bO12_0, (fun j q hj => by omega)⟩ ?_ ?_ ?_
      ·
        clear bO1_0 bO12_0 hc20 e0 hE
        intro l26 k27 i w24 hii h _
        obtain ⟨hs25, e0, hE, bO1_0, hc20, b9, hle⟩ := h
        have hil : i < (Mem.evL l).length := by rw [Mem.evL_len]; exact hii
        have hG := stpN_at hil
        refine icw_clean [3, 6, 19, 20] (ws' := [(3, .pointer (some ⟨O1, 0, none⟩)), (6, .pointer (some ⟨O12, 0, none⟩)), (19, .int .i64 ((stpN (Mem.evL l) i).1 : Int)), (20, .int .i64 ((stpN (Mem.evL l) i).2 : Int))]) (by kernel_rfl) (fun L => ?_)
        have hrk28 : RK w21.heap.size (fun k => k = O12) w24 w24 := RK.refl _ _ _
        refine icw_seq ?_
        refine icw_plain ?_
        refine ipl_take (.int .i64 ((stpN (Mem.evL l) i).1 : Int)) rfl (by kernel_rfl) (by kernel_rfl) (by kernel_rfl) (by kernel_rfl) ?_
        refine ipl_nil ?_
        refine iqw_then ?_
        refine icw_plain ?_
        refine ipl_take (.int .i64 ((stpN (Mem.evL l) i).2 : Int)) rfl (by kernel_rfl) (by kernel_rfl) (by kernel_rfl) (by kernel_rfl) ?_
        refine ipl_nil ?_
        refine iqw_asg hrk28 (fun w30 hm29 => ?_)
        replace e0 := hm29.ext e0 (Nat.le_trans hs0 (Nat.le_trans hs3 (Nat.le_trans hs7 (Nat.le_trans hs11 (Nat.le_trans hs14 (Nat.le_trans hs17 hs22))))))
        replace hE := hm29.ext hE (Nat.le_trans hs3 (Nat.le_trans hs7 (Nat.le_trans hs11 (Nat.le_trans hs14 (Nat.le_trans hs17 hs22)))))
        replace bO1_0 := hm29.box bO1_0
        replace hc20 := hm29.cell hc20
        replace b9 := hm29.box b9
        have hs31 := hm29.size
        have hrk32 : RK w21.heap.size (fun k => k = O12) w30 w30 := RK.refl _ _ _
        refine icw_block ?_
        refine icw_seq ?_
        refine icw_seq ?_
        refine icw_plain ?_
        refine ipl_take (.int .i64 ((stpN (Mem.evL l) i).1 : Int)) rfl (by kernel_rfl) (by kernel_rfl) (by kernel_rfl) (by kernel_rfl) ?_
        refine ipl_take (.int .i64 (at9 : Int)) rfl (by kernel_rfl) (by kernel_rfl) (by kernel_rfl) (ex_load rfl (by kernel_rfl) (ld3 (bO1_0.1))) ?_
        by_cases hc33 : ((stpN (Mem.evL l) i).1 : Int) > (at9 : Int)
        ·
          refine ipl_take (.bool true) rfl (by kernel_rfl) (by kernel_rfl) (by kernel_rfl) (ev_dec (show _ = Result.ok (Next.value (Value.bool (decide (((stpN (Mem.evL l) i).1 : Int) > (at9 : Int))))) _ from by kernel_rfl) (hc33)) ?_
          refine ipl_nil ?_
          refine iqw_then ?_
          refine icw_t (by kernel_rfl) ?_
          refine icw_exit ?_
          refine iqw_then_exit ?_
          refine iqw_block_on (by decide) ?_
          exact iqw_brk hrk32 ⟨rfl, (Nat.le_trans hs25 hs31), e0, hE, bO1_0, hc20, b9, hle, (fun q hq => by rw [hG] at hq; cases hq; omega)⟩
        ·
          refine ipl_take (.bool false) rfl (by kernel_rfl) (by kernel_rfl) (by kernel_rfl) (ev_ndec (show _ = Result.ok (Next.value (Value.bool (decide (((stpN (Mem.evL l) i).1 : Int) > (at9 : Int))))) _ from by kernel_rfl) (hc33)) ?_
          refine ipl_nil ?_
          refine iqw_then ?_
          refine icw_f (by kernel_rfl) ?_
          refine icw_skip ?_
          refine iqw_then ?_
          refine icw_plain ?_
          refine ipl_take (.int .i64 ((stpN (Mem.evL l) i).2 : Int)) rfl (by kernel_rfl) (by kernel_rfl) (by kernel_rfl) (by kernel_rfl) ?_
          refine ipl_put rfl (by kernel_rfl) (by kernel_rfl) (sn_set (O := O12) (j := 0) (v := .int .i64 ((stpN (Mem.evL l) i).2 : Int)) (ex_store (p := .pointer (some ⟨O12, 0, none⟩)) (v := .int .i64 ((stpN (Mem.evL l) i).2 : Int)) rfl (by kernel_rfl) (by kernel_rfl) (st3 b9.1 b9.2)) b9 ?_)
          intro X34 ho hv0 hk
          replace e0 := ho.ext e0 (Nat.le_trans (Nat.le_trans hs0 (Nat.le_trans hs3 (Nat.le_trans hs7 hs11))) (Nat.le_of_eq hzO12))
          replace hE := ho.ext hE (Nat.le_trans (Nat.le_trans hs3 (Nat.le_trans hs7 hs11)) (Nat.le_of_eq hzO12))
          replace bO1_0 := ho.box (Nat.ne_of_gt (Nat.lt_of_lt_of_le lt4 (Nat.le_trans (Nat.le_trans hs7 hs11) (Nat.le_of_eq hzO12)))) bO1_0
          replace hc20 := ho.cell (Nat.ne_of_lt (Nat.lt_of_lt_of_le lt15 (Nat.le_trans hs17 hn19))) hc20
          replace hrk32 := hrk32.turn ho (.inl (rfl))
          have hs35 : w30.heap.size ≤ X34.heap.size := Nat.le_of_eq ho.size.symm
          clear ho hk b9
          have b9 := hv0; clear hv0
          refine ipl_nil ?_
          refine iqw_block ?_
          exact iqw_next hrk32 ⟨(Nat.le_trans hs25 (Nat.le_trans hs31 hs35)), e0, hE, bO1_0, hc20, (by rw [Mem.lastV_next hil]; exact b9), (Mem.le_next (P := fun q => q.1 ≤ at9) hle hil (by omega))⟩
      ·
        clear bO1_0 bO12_0 hc20 e0 hE
        intro D36 w37 hD40 hDl41 h hmk39
        obtain ⟨hs38, e0, hE, bO1_0, hc20, b9, hle⟩ := h
        have hv9 : Mem.lastV ((Mem.evL l).take (Mem.chg l).length) = Mem.fill l at9 := Mem.fill_at (Mem.evL_fills l) hle (fun q hq => by rw [← Mem.evL_len, List.getElem?_eq_none (Nat.le_refl _)] at hq; cases hq) (by rw [Mem.evL_len]; exact Nat.le_refl _)
        refine iqw_block ?_
        refine iqw_then ?_
        refine icw_seq ?_
        refine icw_plain ?_
        refine ipl_take (.int .i64 (Mem.lastV ((Mem.evL l).take ((Mem.chg l).length)) : Int)) rfl (by kernel_rfl) (by kernel_rfl) (by kernel_rfl) (ex_load rfl (by kernel_rfl) (ld3 (b9.1))) ?_
        refine ipl_take (.int .i64 (Mem.lastV ((Mem.evL l).take ((Mem.chg l).length)) : Int)) rfl (by kernel_rfl) (by kernel_rfl) (by kernel_rfl) (by kernel_rfl) ?_
        refine ipl_take (.int .i64 0) rfl (by kernel_rfl) (by kernel_rfl) (by kernel_rfl) (by kernel_rfl) ?_
        refine ipl_nil ?_
        refine iqw_then ?_
        refine icw_ret ?_
        refine iqw_ret w.heap.size [.int .i64 (Mem.lastV ((Mem.evL l).take ((Mem.chg l).length)) : Int), .int .i64 0] rfl (marksC (Nat.le_trans (Nat.le_trans hs3 (Nat.le_trans hs7 (Nat.le_trans hs11 (Nat.le_trans hs14 (Nat.le_trans hs17 hs22))))) hD40) hmk39 (fun _ h => by cases h)) (by simp) (fun W9 hm9 => ?_)
        replace e0 := hm9.ext e0 hs0
        replace hE := hm9.ext hE (Nat.le_refl _)
        replace bO1_0 := hm9.box bO1_0
        replace hc20 := hm9.cell hc20
        replace b9 := hm9.box b9
        have hs42 := hm9.size
        refine ⟨⟨(by kernel_rfl), (by kernel_rfl), trivial⟩, ?_⟩
        have hB : (Mem.okL l && Globe.inB at9 0 1000000) = true := by rw [hb5, hb8]; rfl
        rw [hB, Mem.ansV_t, ← hv9]; exact ⟨rfl, hE⟩
      ·
        clear bO1_0 bO12_0 hc20 e0 hE
        intro cd9 D43 i w44 hD47 hDl48 hii h hmk46
        obtain ⟨rfl, hs45, e0, hE, bO1_0, hc20, b9, hle, hgt⟩ := h
        have hv9 : Mem.lastV ((Mem.evL l).take i) = Mem.fill l at9 := Mem.fill_at (Mem.evL_fills l) hle hgt (by rw [Mem.evL_len]; omega)
        refine icw_exit ?_
        refine iqw_block_out ?_
        refine iqw_then ?_
        refine icw_seq ?_
        refine icw_plain ?_
        refine ipl_take (.int .i64 (Mem.lastV ((Mem.evL l).take i) : Int)) rfl (by kernel_rfl) (by kernel_rfl) (by kernel_rfl) (ex_load rfl (by kernel_rfl) (ld3 (b9.1))) ?_
        refine ipl_take (.int .i64 (Mem.lastV ((Mem.evL l).take i) : Int)) rfl (by kernel_rfl) (by kernel_rfl) (by kernel_rfl) (by kernel_rfl) ?_
        refine ipl_take (.int .i64 0) rfl (by kernel_rfl) (by kernel_rfl) (by kernel_rfl) (by kernel_rfl) ?_
        refine ipl_nil ?_
        refine iqw_then ?_
        refine icw_ret ?_
        refine iqw_ret w.heap.size [.int .i64 (Mem.lastV ((Mem.evL l).take i) : Int), .int .i64 0] rfl (marksC (Nat.le_trans (Nat.le_trans hs3 (Nat.le_trans hs7 (Nat.le_trans hs11 (Nat.le_trans hs14 (Nat.le_trans hs17 hs22))))) hD47) hmk46 (fun _ h => by cases h)) (by simp) (fun W9 hm9 => ?_)
        replace e0 := hm9.ext e0 hs0
        replace hE := hm9.ext hE (Nat.le_refl _)
        replace bO1_0 := hm9.box bO1_0
        replace hc20 := hm9.cell hc20
        replace b9 := hm9.box b9
        have hs49 := hm9.size
        refine ⟨⟨(by kernel_rfl), (by kernel_rfl), trivial⟩, ?_⟩
        have hB : (Mem.okL l && Globe.inB at9 0 1000000) = true := by rw [hb5, hb8]; rfl
        rw [hB, Mem.ansV_t, ← hv9]; exact ⟨rfl, hE⟩
    ·
      refine ipl_step rfl (by kernel_rfl) (by kernel_rfl) (by kernel_rfl) (sn_call (f := 46) (args := #[.int .i64 (at9 : Int), .int .i64 0, .int .i64 1000000]) (by kernel_rfl) ((memory_isIn_r (r := false) at9 0 1000000 _ (hb8)).mono ?_))
      rintro e w50 ⟨rfl, hb⟩
      replace e0 := e0.trans hb
      replace hE := hE.trans hb
      replace bO1_0 := BoxAt.ext hb bO1_0
      have hs51 := hb.size
      clear hb
      refine ⟨_, rfl, ?_⟩
      refine ipl_take (.bool true) rfl (by kernel_rfl) (by kernel_rfl) (by kernel_rfl) (by kernel_rfl) ?_
      refine ipl_take (.bool true) rfl (by kernel_rfl) (by kernel_rfl) (by kernel_rfl) (by kernel_rfl) ?_
      refine ipl_nil ?_
      refine iqw_then ?_
      refine icw_t (by kernel_rfl) ?_
      refine icw_seq ?_
      refine icw_plain ?_
      refine ipl_take (.int .i64 0) rfl (by kernel_rfl) (by kernel_rfl) (by kernel_rfl) (by kernel_rfl) ?_
      refine ipl_take (.int .i64 110) rfl (by kernel_rfl) (by kernel_rfl) (by kernel_rfl) (by kernel_rfl) ?_
      refine ipl_nil ?_
      refine iqw_then ?_
      refine icw_ret ?_
      refine iqw_then_ret ?_
      refine iqw_ret0 [.int .i64 0, .int .i64 110] rfl ⟨(by kernel_rfl), (by kernel_rfl), trivial⟩ ?_
      have hB : (Mem.okL l && Globe.inB at9 0 1000000) = false := by rw [hb8]; simp
      rw [hB]; exact ⟨rfl, hE⟩
  ·
    refine ipl_step rfl (by kernel_rfl) (by kernel_rfl) (by kernel_rfl) (sn_call (f := 18) (args := #[.slice a n c]) (by kernel_rfl) ((Valid_r (l := l) (r := false) _ _ h e0 hb5).mono ?_))
    rintro e w52 ⟨rfl, hb⟩
    replace e0 := e0.trans hb
    replace hE := hE.trans hb
    replace bO1_0 := BoxAt.ext hb bO1_0
    have hs53 := hb.size
    clear hb
    refine ⟨_, rfl, ?_⟩
    refine ipl_take (.bool true) rfl (by kernel_rfl) (by kernel_rfl) (by kernel_rfl) (by kernel_rfl) ?_
    refine ipl_take (.bool true) rfl (by kernel_rfl) (by kernel_rfl) (by kernel_rfl) (by kernel_rfl) ?_
    refine ipl_skip rfl (by kernel_rfl) (by kernel_rfl) (by kernel_rfl) ?_
    refine ipl_skip rfl (by kernel_rfl) (by kernel_rfl) (by kernel_rfl) ?_
    refine ipl_skip rfl (by kernel_rfl) (by kernel_rfl) (by kernel_rfl) ?_
    refine ipl_take (.bool true) rfl (by kernel_rfl) (by kernel_rfl) (by kernel_rfl) (by kernel_rfl) ?_
    refine ipl_nil ?_
    refine iqw_then ?_
    refine icw_t (by kernel_rfl) ?_
    refine icw_seq ?_
    refine icw_plain ?_
    refine ipl_take (.int .i64 0) rfl (by kernel_rfl) (by kernel_rfl) (by kernel_rfl) (by kernel_rfl) ?_
    refine ipl_take (.int .i64 110) rfl (by kernel_rfl) (by kernel_rfl) (by kernel_rfl) (by kernel_rfl) ?_
    refine ipl_nil ?_
    refine iqw_then ?_
    refine icw_ret ?_
    refine iqw_then_ret ?_
    refine iqw_ret0 [.int .i64 0, .int .i64 110] rfl ⟨(by kernel_rfl), (by kernel_rfl), trivial⟩ ?_
    have hB : (Mem.okL l && Globe.inB at9 0 1000000) = false := by rw [hb5]; simp
    rw [hB]; exact ⟨rfl, hE⟩
set_option maxRecDepth 1000000 in
set_option maxHeartbeats 4000000 in
theorem Most_c {w0 : World} {a : Option Addr} {n : Nat} {l : List Mem.St} (c : Nat) (w : World) (h : StsAt w0 a n l) (e0 : Ext w0 w) : Calls Try.prog 13 #[.slice a n c] w fun e w' => e = .returned (.tuple #[.int .i64 (Mem.ansV (Mem.okL l) ((Mem.mostR l).1)), .int .i64 (Mem.ansV (Mem.okL l) ((Mem.mostR l).2)), .int .i64 (Mem.ansE (Mem.okL l))]) ∧ Ext w w' := by
  have hln := h.1; have hmx := h.2.1
  have hs0 := e0.size
  refine icalls_cw 23 [(0, .slice a n c)] Try.func13 rfl Try.ntmps13 (by kernel_rfl) (by kernel_rfl) (fun L mm => ?_)
  have hE : Ext w w := Ext.refl w
  refine icw_seq ?_
  refine icw_plain ?_
  refine ipl_take (.int .i64 0) rfl (by kernel_rfl) (by kernel_rfl) (by kernel_rfl) (by kernel_rfl) ?_
  refine ipl_take (.int .i64 0) rfl (by kernel_rfl) (by kernel_rfl) (by kernel_rfl) (by kernel_rfl) ?_
  refine ipl_take (.int .i64 0) rfl (by kernel_rfl) (by kernel_rfl) (by kernel_rfl) (by kernel_rfl) ?_
  refine ipl_nil ?_
  refine iqw_then ?_
  refine icw_seq ?_
  refine icw_seq ?_
  refine icw_plain ?_
  refine ipl_take (.slice a n c) rfl (by kernel_rfl) (by kernel_rfl) (by kernel_rfl) (by kernel_rfl) ?_
  rcases Bool.eq_false_or_eq_true (Mem.okL l) with hb1 | hb1
  ·
    refine ipl_step rfl (by kernel_rfl) (by kernel_rfl) (by kernel_rfl) (sn_call (f := 18) (args := #[.slice a n c]) (by kernel_rfl) ((Valid_r (l := l) (r := true) _ _ h e0 hb1).mono ?_))
    rintro e w2 ⟨rfl, hb⟩
    replace e0 := e0.trans hb
    replace hE := hE.trans hb
    have hs3 := hb.size
    clear hb
    refine ⟨_, rfl, ?_⟩
    refine ipl_take (.bool false) rfl (by kernel_rfl) (by kernel_rfl) (by kernel_rfl) (by kernel_rfl) ?_
    refine ipl_nil ?_
    refine iqw_then ?_
    refine icw_f (by kernel_rfl) ?_
    refine icw_skip ?_
    refine iqw_then ?_
    refine icw_seq ?_
    refine icw_plain ?_
    refine ipl_step rfl (by kernel_rfl) (by kernel_rfl) (by kernel_rfl) (sn_new (us := #[.int .i64 0]) (t := 3) (by kernel_rfl) ?_)
    intro O4 X5 hO hOs hb hbx
    have hzO4 := hO; have hyO4 := hOs; clear hO hOs
    have bO4_0 : BoxAt X5 O4 0 (.int .i64 0) := hbx 0 _ rfl
    clear hbx
    replace e0 := e0.trans hb
    replace hE := hE.trans hb
    have hs6 := hb.size
    clear hb
    have lt7 := bO4_0.lt
    refine ipl_step rfl (by kernel_rfl) (by kernel_rfl) (by kernel_rfl) (sn_new (us := #[.int .i64 0]) (t := 3) (by kernel_rfl) ?_)
    intro O8 X9 hO hOs hb hbx
    have hzO8 := hO; have hyO8 := hOs; clear hO hOs
    have bO8_0 : BoxAt X9 O8 0 (.int .i64 0) := hbx 0 _ rfl
    clear hbx
    replace e0 := e0.trans hb
    replace hE := hE.trans hb
    replace bO4_0 := BoxAt.ext hb bO4_0
    have hs10 := hb.size
    clear hb
    have lt11 := bO8_0.lt
    refine ipl_put rfl (by kernel_rfl) (by kernel_rfl) (sn_set (O := O4) (j := 0) (v := .int .i64 0) (ex_store (p := .pointer (some ⟨O4, 0, none⟩)) (v := .int .i64 0) rfl (by kernel_rfl) (by kernel_rfl) (st3 bO4_0.1 bO4_0.2)) bO4_0 ?_)
    intro X12 ho hv0 hk
    replace e0 := ho.ext e0 (Nat.le_trans (Nat.le_trans hs0 hs3) (Nat.le_of_eq hzO4))
    replace hE := ho.ext hE (Nat.le_trans hs3 (Nat.le_of_eq hzO4))
    replace bO8_0 := ho.box (Nat.ne_of_lt (Nat.lt_of_lt_of_le lt7 (Nat.le_of_eq hzO8))) bO8_0
    have hs13 : X9.heap.size ≤ X12.heap.size := Nat.le_of_eq ho.size.symm
    clear ho hk bO4_0
    have bO4_0 := hv0; clear hv0
    refine ipl_put rfl (by kernel_rfl) (by kernel_rfl) (sn_set (O := O8) (j := 0) (v := .int .i64 (-1 : Int)) (ex_store (p := .pointer (some ⟨O8, 0, none⟩)) (v := .int .i64 (-1 : Int)) rfl (by kernel_rfl) (by kernel_rfl) (st3 bO8_0.1 bO8_0.2)) bO8_0 ?_)
    intro X14 ho hv0 hk
    replace e0 := ho.ext e0 (Nat.le_trans (Nat.le_trans hs0 (Nat.le_trans hs3 hs6)) (Nat.le_of_eq hzO8))
    replace hE := ho.ext hE (Nat.le_trans (Nat.le_trans hs3 hs6) (Nat.le_of_eq hzO8))
    replace bO4_0 := ho.box (Nat.ne_of_gt (Nat.lt_of_lt_of_le lt7 (Nat.le_of_eq hzO8))) bO4_0
    have hs15 : X12.heap.size ≤ X14.heap.size := Nat.le_of_eq ho.size.symm
    clear ho hk bO8_0
    have bO8_0 := hv0; clear hv0
    refine ipl_nil ?_
    refine iqw_then ?_
    refine icw_seq ?_
    refine icw_seq ?_
    refine icw_plain ?_
    refine ipl_take (.slice a n c) rfl (by kernel_rfl) (by kernel_rfl) (by kernel_rfl) (by kernel_rfl) ?_
    refine ipl_step rfl (by kernel_rfl) (by kernel_rfl) (by kernel_rfl) (sn_call (f := 33) (args := #[.slice a n c]) (by kernel_rfl) ((fills_c _ _ _ _).mono ?_))
    rintro e w19 ⟨B16, rfl, hn17, hc18, hb⟩
    replace e0 := e0.trans hb
    replace hE := hE.trans hb
    replace bO4_0 := BoxAt.ext hb bO4_0
    replace bO8_0 := BoxAt.ext hb bO8_0
    have hs20 := hb.size
    clear hb
    have lt21 := World.block_lt_of_cell? _ _ hc18
    refine ⟨_, rfl, ?_⟩
    refine ipl_nil ?_
    refine iqw_then ?_
    refine icw_block ?_
    have hok9 := hb1
    refine icw_range (ps := [14, 15]) (by kernel_rfl) (enters_of Try.func51 (by kernel_rfl) rfl) (fills_seq (X := (fun k => k = O4 ∨ k = O8)) h hok9 e0 hc18 (fun k hk => hk.elim (fun e => e ▸ (Nat.lt_of_lt_of_le lt7 (Nat.le_trans hs10 (Nat.le_trans hs13 (Nat.le_trans hs15 hs20))))) (fun e => e ▸ (Nat.lt_of_lt_of_le lt11 (Nat.le_trans hs13 (Nat.le_trans hs15 hs20)))))) (Ext.refl _) (fun _ => rfl) (by kernel_rfl) (fun i W => w19.heap.size ≤ W.heap.size ∧ Ext w0 W ∧ Ext w W ∧ W.cell? ⟨B16, 0, none⟩ = some (.slice a n c) ∧ BoxAt W O4 0 (.int .i64 ((Mem.mostGo (0, -1) ((Mem.evL l).take i)).1 : Int)) ∧ BoxAt W O8 0 (.int .i64 ((Mem.mostGo (0, -1) ((Mem.evL l).take i)).2 : Int))) (fun _ _ _ => False) (fun i A B h hm => by obtain ⟨hsz, e0, hE, hc18, b9, b8⟩ := h; exact ⟨Nat.le_trans hsz hm.size, hm.ext e0 (Nat.le_trans hs0 (Nat.le_trans hs3 (Nat.le_trans hs6 (Nat.le_trans hs10 (Nat.le_trans hs13 (Nat.le_trans hs15 hs20)))))), hm.ext hE (Nat.le_trans hs3 (Nat.le_trans hs6 (Nat.le_trans hs10 (Nat.le_trans hs13 (Nat.le_trans hs15 hs20))))), hm.cell hc18, hm.box b9, hm.box b8⟩) (fun _ _ _ _ h _ => h.elim) ⟨Nat.le_refl _, e0, hE, hc18, bO4_0, bO8_0⟩ ?_ ?_ ?_
    ·
      clear bO4_0 bO8_0 hc18 e0 hE
      intro l24 k25 i w22 hii h _
      obtain ⟨hs23, e0, hE, hc18, b9, b8⟩ := h
      have hil : i < (Mem.evL l).length := by rw [Mem.evL_len]; exact hii
      have hG := stpN_at hil
      refine icw_clean [5, 6, 14, 15] (ws' := [(5, .pointer (some ⟨O4, 0, none⟩)), (6, .pointer (some ⟨O8, 0, none⟩)), (14, .int .i64 ((stpN (Mem.evL l) i).1 : Int)), (15, .int .i64 ((stpN (Mem.evL l) i).2 : Int))]) (by kernel_rfl) (fun L => ?_)
      have hrk26 : RK w19.heap.size (fun k => k = O4 ∨ k = O8) w22 w22 := RK.refl _ _ _
      refine icw_seq ?_
      refine icw_plain ?_
      refine ipl_take (.int .i64 ((stpN (Mem.evL l) i).1 : Int)) rfl (by kernel_rfl) (by kernel_rfl) (by kernel_rfl) (by kernel_rfl) ?_
      refine ipl_nil ?_
      refine iqw_then ?_
      refine icw_plain ?_
      refine ipl_take (.int .i64 ((stpN (Mem.evL l) i).2 : Int)) rfl (by kernel_rfl) (by kernel_rfl) (by kernel_rfl) (by kernel_rfl) ?_
      refine ipl_nil ?_
      refine iqw_asg hrk26 (fun w28 hm27 => ?_)
      replace e0 := hm27.ext e0 (Nat.le_trans hs0 (Nat.le_trans hs3 (Nat.le_trans hs6 (Nat.le_trans hs10 (Nat.le_trans hs13 (Nat.le_trans hs15 hs20))))))
      replace hE := hm27.ext hE (Nat.le_trans hs3 (Nat.le_trans hs6 (Nat.le_trans hs10 (Nat.le_trans hs13 (Nat.le_trans hs15 hs20)))))
      replace hc18 := hm27.cell hc18
      replace b9 := hm27.box b9
      replace b8 := hm27.box b8
      have hs29 := hm27.size
      have hrk30 : RK w19.heap.size (fun k => k = O4 ∨ k = O8) w28 w28 := RK.refl _ _ _
      refine icw_block ?_
      refine icw_seq ?_
      refine icw_plain ?_
      refine ipl_take (.int .i64 ((stpN (Mem.evL l) i).2 : Int)) rfl (by kernel_rfl) (by kernel_rfl) (by kernel_rfl) (by kernel_rfl) ?_
      refine ipl_take (.int .i64 ((Mem.mostGo (0, -1) ((Mem.evL l).take i)).1 : Int)) rfl (by kernel_rfl) (by kernel_rfl) (by kernel_rfl) (ex_load rfl (by kernel_rfl) (ld3 (b9.1))) ?_
      by_cases hc31 : ((stpN (Mem.evL l) i).2 : Int) > ((Mem.mostGo (0, -1) ((Mem.evL l).take i)).1 : Int)
      ·
        have hmn := Mem.most_next hil; rw [if_pos (show (Mem.mostGo (0, -1) ((Mem.evL l).take i)).1 < (stpN (Mem.evL l) i).2 by omega)] at hmn
        refine ipl_take (.bool true) rfl (by kernel_rfl) (by kernel_rfl) (by kernel_rfl) (ev_dec (show _ = Result.ok (Next.value (Value.bool (decide (((stpN (Mem.evL l) i).2 : Int) > ((Mem.mostGo (0, -1) ((Mem.evL l).take i)).1 : Int))))) _ from by kernel_rfl) (hc31)) ?_
        refine ipl_nil ?_
        refine iqw_then ?_
        refine icw_t (by kernel_rfl) ?_
        refine icw_plain ?_
        refine ipl_take (.int .i64 ((stpN (Mem.evL l) i).2 : Int)) rfl (by kernel_rfl) (by kernel_rfl) (by kernel_rfl) (by kernel_rfl) ?_
        refine ipl_take (.int .i64 ((stpN (Mem.evL l) i).1 : Int)) rfl (by kernel_rfl) (by kernel_rfl) (by kernel_rfl) (by kernel_rfl) ?_
        refine ipl_put rfl (by kernel_rfl) (by kernel_rfl) (sn_set (O := O4) (j := 0) (v := .int .i64 ((stpN (Mem.evL l) i).2 : Int)) (ex_store (p := .pointer (some ⟨O4, 0, none⟩)) (v := .int .i64 ((stpN (Mem.evL l) i).2 : Int)) rfl (by kernel_rfl) (by kernel_rfl) (st3 b9.1 b9.2)) b9 ?_)
        intro X32 ho hv0 hk
        replace e0 := ho.ext e0 (Nat.le_trans (Nat.le_trans hs0 hs3) (Nat.le_of_eq hzO4))
        replace hE := ho.ext hE (Nat.le_trans hs3 (Nat.le_of_eq hzO4))
        replace hc18 := ho.cell (Nat.ne_of_lt (Nat.lt_of_lt_of_le lt7 (Nat.le_trans (Nat.le_trans hs10 (Nat.le_trans hs13 hs15)) hn17))) hc18
        replace b8 := ho.box (Nat.ne_of_lt (Nat.lt_of_lt_of_le lt7 (Nat.le_of_eq hzO8))) b8
        replace hrk30 := hrk30.turn ho (.inl ((.inl rfl)))
        have hs33 : w28.heap.size ≤ X32.heap.size := Nat.le_of_eq ho.size.symm
        clear ho hk b9
        have b9 := hv0; clear hv0
        refine ipl_put rfl (by kernel_rfl) (by kernel_rfl) (sn_set (O := O8) (j := 0) (v := .int .i64 ((stpN (Mem.evL l) i).1 : Int)) (ex_store (p := .pointer (some ⟨O8, 0, none⟩)) (v := .int .i64 ((stpN (Mem.evL l) i).1 : Int)) rfl (by kernel_rfl) (by kernel_rfl) (st3 b8.1 b8.2)) b8 ?_)
        intro X34 ho hv0 hk
        replace e0 := ho.ext e0 (Nat.le_trans (Nat.le_trans hs0 (Nat.le_trans hs3 hs6)) (Nat.le_of_eq hzO8))
        replace hE := ho.ext hE (Nat.le_trans (Nat.le_trans hs3 hs6) (Nat.le_of_eq hzO8))
        replace hc18 := ho.cell (Nat.ne_of_lt (Nat.lt_of_lt_of_le lt11 (Nat.le_trans (Nat.le_trans hs13 hs15) hn17))) hc18
        replace hrk30 := hrk30.turn ho (.inl ((.inr rfl)))
        replace b9 := ho.box (Nat.ne_of_gt (Nat.lt_of_lt_of_le lt7 (Nat.le_of_eq hzO8))) b9
        have hs35 : X32.heap.size ≤ X34.heap.size := Nat.le_of_eq ho.size.symm
        clear ho hk b8
        have b8 := hv0; clear hv0
        refine ipl_nil ?_
        refine iqw_block ?_
        exact iqw_next hrk30 ⟨(Nat.le_trans hs23 (Nat.le_trans hs29 (Nat.le_trans hs33 hs35))), e0, hE, hc18, (by rw [hmn]; exact b9), (by rw [hmn]; exact b8)⟩
      ·
        have hmn := Mem.most_next hil; rw [if_neg (show ¬ (Mem.mostGo (0, -1) ((Mem.evL l).take i)).1 < (stpN (Mem.evL l) i).2 by omega)] at hmn
        refine ipl_take (.bool false) rfl (by kernel_rfl) (by kernel_rfl) (by kernel_rfl) (ev_ndec (show _ = Result.ok (Next.value (Value.bool (decide (((stpN (Mem.evL l) i).2 : Int) > ((Mem.mostGo (0, -1) ((Mem.evL l).take i)).1 : Int))))) _ from by kernel_rfl) (hc31)) ?_
        refine ipl_nil ?_
        refine iqw_then ?_
        refine icw_f (by kernel_rfl) ?_
        refine icw_skip ?_
        refine iqw_block ?_
        exact iqw_next hrk30 ⟨(Nat.le_trans hs23 hs29), e0, hE, hc18, (by rw [hmn]; exact b9), (by rw [hmn]; exact b8)⟩
    ·
      clear bO4_0 bO8_0 hc18 e0 hE
      intro D36 w37 hD40 hDl41 h hmk39
      obtain ⟨hs38, e0, hE, hc18, b9, b8⟩ := h
      have hv9 : Mem.mostGo (0, -1) ((Mem.evL l).take (Mem.chg l).length) = Mem.mostR l := by rw [List.take_of_length_le (by rw [Mem.evL_len]; exact Nat.le_refl _)]; exact Mem.most_answer (Mem.okL_u hok9)
      refine iqw_block ?_
      refine iqw_then ?_
      refine icw_seq ?_
      refine icw_draw [(some 21, [5], []), (some 22, [6], []), (some 2, [21], [0, 0]), (some 3, [22], [1, 2, 0, 1, 2]), (some 4, [], [3, 0, 1, 2, 3])] (fun w' => w'.cell? ⟨O4, 0, none⟩ = some (.int .i64 ((Mem.mostGo (0, -1) ((Mem.evL l).take ((Mem.chg l).length))).1 : Int)) ∧ w'.cell? ⟨O8, 0, none⟩ = some (.int .i64 ((Mem.mostGo (0, -1) ((Mem.evL l).take ((Mem.chg l).length))).2 : Int))) (by kernel_rfl) (by kernel_rfl) (by kernel_rfl) (by kernel_rfl) ((calm_then calm_ibody)) (⟨b9.1, b8.1⟩) (fun ops Q X42 hb hL hR hK => ?_)
      replace e0 := e0.trans hb
      replace hE := hE.trans hb
      replace hc18 := hb.cell hc18
      replace b9 := BoxAt.ext hb b9
      replace b8 := BoxAt.ext hb b8
      replace hmk39 := mk_ext hmk39 hb
      have hs43 := hb.size
      clear hb
      refine iwd_take 0 (.int .i64 ((Mem.mostGo (0, -1) ((Mem.evL l).take ((Mem.chg l).length))).1 : Int)) hR rfl (by kernel_rfl) rfl (by kernel_rfl) (fun w hS => ex_load rfl (by kernel_rfl) (ld3 (hS.1))) (⟨b9.1, b8.1⟩) ?_
      refine iwd_take 1 (.int .i64 ((Mem.mostGo (0, -1) ((Mem.evL l).take ((Mem.chg l).length))).2 : Int)) hR rfl (by kernel_rfl) rfl (by kernel_rfl) (fun w hS => ex_load rfl (by kernel_rfl) (ld3 (hS.2))) (⟨b9.1, b8.1⟩) ?_
      refine iwd_take 2 (.int .i64 ((Mem.mostGo (0, -1) ((Mem.evL l).take ((Mem.chg l).length))).1 : Int)) hR rfl (by kernel_rfl) rfl (by kernel_rfl) (fun w _ => by kernel_rfl) (⟨b9.1, b8.1⟩) ?_
      refine iwd_take 3 (.int .i64 ((Mem.mostGo (0, -1) ((Mem.evL l).take ((Mem.chg l).length))).2 : Int)) hR rfl (by kernel_rfl) rfl (by kernel_rfl) (fun w _ => by kernel_rfl) (⟨b9.1, b8.1⟩) ?_
      refine iwd_take 4 (.int .i64 0) hR rfl (by kernel_rfl) rfl (by kernel_rfl) (fun w _ => by kernel_rfl) (⟨b9.1, b8.1⟩) ?_
      refine iwd_end hL hR hK (by kernel_rfl) ?_
      refine iqw_then ?_
      refine icw_ret ?_
      refine iqw_ret w.heap.size [.int .i64 ((Mem.mostGo (0, -1) ((Mem.evL l).take ((Mem.chg l).length))).1 : Int), .int .i64 ((Mem.mostGo (0, -1) ((Mem.evL l).take ((Mem.chg l).length))).2 : Int), .int .i64 0] rfl (marksC (Nat.le_trans (Nat.le_trans hs3 (Nat.le_trans hs6 (Nat.le_trans hs10 (Nat.le_trans hs13 (Nat.le_trans hs15 hs20))))) hD40) hmk39 (fun _ h => by cases h)) (by simp) (fun W9 hm9 => ?_)
      replace e0 := hm9.ext e0 hs0
      replace hE := hm9.ext hE (Nat.le_refl _)
      replace hc18 := hm9.cell hc18
      replace b9 := hm9.box b9
      replace b8 := hm9.box b8
      have hs44 := hm9.size
      refine ⟨⟨(by kernel_rfl), (by kernel_rfl), (by kernel_rfl), trivial⟩, ?_⟩
      rw [hb1, Mem.ansV_t, Mem.ansV_t, ← hv9]; exact ⟨rfl, hE⟩
    · intro _ _ _ _ _ _ _ h _; exact h.elim
  ·
    refine ipl_step rfl (by kernel_rfl) (by kernel_rfl) (by kernel_rfl) (sn_call (f := 18) (args := #[.slice a n c]) (by kernel_rfl) ((Valid_r (l := l) (r := false) _ _ h e0 hb1).mono ?_))
    rintro e w45 ⟨rfl, hb⟩
    replace e0 := e0.trans hb
    replace hE := hE.trans hb
    have hs46 := hb.size
    clear hb
    refine ⟨_, rfl, ?_⟩
    refine ipl_take (.bool true) rfl (by kernel_rfl) (by kernel_rfl) (by kernel_rfl) (by kernel_rfl) ?_
    refine ipl_nil ?_
    refine iqw_then ?_
    refine icw_t (by kernel_rfl) ?_
    refine icw_seq ?_
    refine icw_plain ?_
    refine ipl_take (.int .i64 0) rfl (by kernel_rfl) (by kernel_rfl) (by kernel_rfl) (by kernel_rfl) ?_
    refine ipl_take (.int .i64 0) rfl (by kernel_rfl) (by kernel_rfl) (by kernel_rfl) (by kernel_rfl) ?_
    refine ipl_take (.int .i64 110) rfl (by kernel_rfl) (by kernel_rfl) (by kernel_rfl) (by kernel_rfl) ?_
    refine ipl_nil ?_
    refine iqw_then ?_
    refine icw_ret ?_
    refine iqw_then_ret ?_
    refine iqw_ret0 [.int .i64 0, .int .i64 0, .int .i64 110] rfl ⟨(by kernel_rfl), (by kernel_rfl), (by kernel_rfl), trivial⟩ ?_
    rw [hb1]; exact ⟨rfl, hE⟩
set_option maxRecDepth 1000000 in
set_option maxHeartbeats 4000000 in
theorem Over_c {w0 : World} {a : Option Addr} {n : Nat} {l : List Mem.St} (st : Int) (c : Nat) (w : World) (h : StsAt w0 a n l) (e0 : Ext w0 w) : Calls Try.prog 22 #[.slice a n c, .int .i64 st] w fun e w' => e = .returned (.tuple #[.int .i64 (Mem.ansV (Mem.okL l && Globe.inB st 0 1000000) (Mem.overR l st)), .int .i64 (Mem.ansE (Mem.okL l && Globe.inB st 0 1000000))]) ∧ Ext w w' := by
  have hln := h.1; have hmx := h.2.1
  have hs0 := e0.size
  refine icalls_cw 24 [(1, .int .i64 (st : Int)), (0, .slice a n c)] Try.func22 rfl Try.ntmps22 (by kernel_rfl) (by kernel_rfl) (fun L mm => ?_)
  have hE : Ext w w := Ext.refl w
  refine icw_seq ?_
  refine icw_plain ?_
  refine ipl_step rfl (by kernel_rfl) (by kernel_rfl) (by kernel_rfl) (sn_new (us := #[.int .i64 (st : Int)]) (t := 3) (by kernel_rfl) ?_)
  intro O1 X2 hO hOs hb hbx
  have hzO1 := hO; have hyO1 := hOs; clear hO hOs
  have bO1_0 : BoxAt X2 O1 0 (.int .i64 (st : Int)) := hbx 0 _ rfl
  clear hbx
  replace e0 := e0.trans hb
  replace hE := hE.trans hb
  have hs3 := hb.size
  clear hb
  have lt4 := bO1_0.lt
  refine ipl_step rfl (by kernel_rfl) (by kernel_rfl) (by kernel_rfl) (sn_new (us := #[.int .i64 0]) (t := 3) (by kernel_rfl) ?_)
  intro O5 X6 hO hOs hb hbx
  have hzO5 := hO; have hyO5 := hOs; clear hO hOs
  have bO5_0 : BoxAt X6 O5 0 (.int .i64 0) := hbx 0 _ rfl
  clear hbx
  replace e0 := e0.trans hb
  replace hE := hE.trans hb
  replace bO1_0 := BoxAt.ext hb bO1_0
  have hs7 := hb.size
  clear hb
  have lt8 := bO5_0.lt
  refine ipl_step rfl (by kernel_rfl) (by kernel_rfl) (by kernel_rfl) (sn_new (us := #[.int .i64 0]) (t := 36) (by kernel_rfl) ?_)
  intro O9 X10 hO hOs hb hbx
  have hzO9 := hO; have hyO9 := hOs; clear hO hOs
  have bO9_0 : BoxAt X10 O9 0 (.int .i64 0) := hbx 0 _ rfl
  clear hbx
  replace e0 := e0.trans hb
  replace hE := hE.trans hb
  replace bO1_0 := BoxAt.ext hb bO1_0
  replace bO5_0 := BoxAt.ext hb bO5_0
  have hs11 := hb.size
  clear hb
  have lt12 := bO9_0.lt
  refine ipl_nil ?_
  refine iqw_then ?_
  refine icw_seq ?_
  refine icw_seq ?_
  refine icw_plain ?_
  refine ipl_take (.slice a n c) rfl (by kernel_rfl) (by kernel_rfl) (by kernel_rfl) (by kernel_rfl) ?_
  rcases Bool.eq_false_or_eq_true (Mem.okL l) with hb13 | hb13
  ·
    refine ipl_step rfl (by kernel_rfl) (by kernel_rfl) (by kernel_rfl) (sn_call (f := 18) (args := #[.slice a n c]) (by kernel_rfl) ((Valid_r (l := l) (r := true) _ _ h e0 hb13).mono ?_))
    rintro e w14 ⟨rfl, hb⟩
    replace e0 := e0.trans hb
    replace hE := hE.trans hb
    replace bO1_0 := BoxAt.ext hb bO1_0
    replace bO5_0 := BoxAt.ext hb bO5_0
    replace bO9_0 := BoxAt.ext hb bO9_0
    have hs15 := hb.size
    clear hb
    refine ⟨_, rfl, ?_⟩
    refine ipl_take (.bool false) rfl (by kernel_rfl) (by kernel_rfl) (by kernel_rfl) (by kernel_rfl) ?_
    refine ipl_take (.bool false) rfl (by kernel_rfl) (by kernel_rfl) (by kernel_rfl) (by kernel_rfl) ?_
    refine ipl_take (.int .i64 (st : Int)) rfl (by kernel_rfl) (by kernel_rfl) (by kernel_rfl) (ex_load rfl (by kernel_rfl) (ld3 (bO1_0.1))) ?_
    rcases Bool.eq_false_or_eq_true (Globe.inB st 0 1000000) with hb16 | hb16
    ·
      have hq17 := Globe.inB_t.1 hb16
      refine ipl_step rfl (by kernel_rfl) (by kernel_rfl) (by kernel_rfl) (sn_call (f := 46) (args := #[.int .i64 (st : Int), .int .i64 0, .int .i64 1000000]) (by kernel_rfl) ((memory_isIn_r (r := true) st 0 1000000 _ (hb16)).mono ?_))
      rintro e w18 ⟨rfl, hb⟩
      replace e0 := e0.trans hb
      replace hE := hE.trans hb
      replace bO1_0 := BoxAt.ext hb bO1_0
      replace bO5_0 := BoxAt.ext hb bO5_0
      replace bO9_0 := BoxAt.ext hb bO9_0
      have hs19 := hb.size
      clear hb
      refine ⟨_, rfl, ?_⟩
      refine ipl_take (.bool false) rfl (by kernel_rfl) (by kernel_rfl) (by kernel_rfl) (by kernel_rfl) ?_
      refine ipl_take (.bool false) rfl (by kernel_rfl) (by kernel_rfl) (by kernel_rfl) (by kernel_rfl) ?_
      refine ipl_nil ?_
      refine iqw_then ?_
      refine icw_f (by kernel_rfl) ?_
      refine icw_skip ?_
      refine iqw_then ?_
      refine icw_seq ?_
      refine icw_seq ?_
      refine icw_plain ?_
      refine ipl_take (.slice a n c) rfl (by kernel_rfl) (by kernel_rfl) (by kernel_rfl) (by kernel_rfl) ?_
      refine ipl_step rfl (by kernel_rfl) (by kernel_rfl) (by kernel_rfl) (sn_call (f := 33) (args := #[.slice a n c]) (by kernel_rfl) ((fills_c _ _ _ _).mono ?_))
      rintro e w23 ⟨B20, rfl, hn21, hc22, hb⟩
      replace e0 := e0.trans hb
      replace hE := hE.trans hb
      replace bO1_0 := BoxAt.ext hb bO1_0
      replace bO5_0 := BoxAt.ext hb bO5_0
      replace bO9_0 := BoxAt.ext hb bO9_0
      have hs24 := hb.size
      clear hb
      have lt25 := World.block_lt_of_cell? _ _ hc22
      refine ⟨_, rfl, ?_⟩
      refine ipl_nil ?_
      refine iqw_then ?_
      refine icw_clean [3, 4, 5, 17] (ws' := [(3, .pointer (some ⟨O1, 0, none⟩)), (4, .pointer (some ⟨O5, 0, none⟩)), (5, .pointer (some ⟨O9, 0, none⟩)), (17, .func (.func 51) #[] #[.pointer (some ⟨B20, 0, none⟩)])]) (by kernel_rfl) (fun L => ?_)
      refine icw_block ?_
      have hok9 := hb13
      have hsb := Globe.inB_t.1 hb16
      refine icw_range (ps := [18, 19]) (by kernel_rfl) (enters_of Try.func51 (by kernel_rfl) rfl) (fills_seq (X := (fun k => k = O5 ∨ k = O9)) h hok9 e0 hc22 (fun k hk => hk.elim (fun e => e ▸ (Nat.lt_of_lt_of_le lt8 (Nat.le_trans hs11 (Nat.le_trans hs15 (Nat.le_trans hs19 hs24))))) (fun e => e ▸ (Nat.lt_of_lt_of_le lt12 (Nat.le_trans hs15 (Nat.le_trans hs19 hs24)))))) (Ext.refl _) (fun _ => rfl) (by kernel_rfl) (fun i W => w23.heap.size ≤ W.heap.size ∧ Ext w0 W ∧ Ext w W ∧ BoxAt W O1 0 (.int .i64 (st : Int)) ∧ W.cell? ⟨B20, 0, none⟩ = some (.slice a n c) ∧ BoxAt W O5 0 (.int .i64 0) ∧ BoxAt W O9 0 (.int .i64 0) ∧ (∀ (j : Nat) q, j < i → (Mem.evL l)[j]? = some q → q.2 ≤ st)) (fun cd9 i W => cd9 = .ret ∧ w23.heap.size ≤ W.heap.size ∧ Ext w0 W ∧ Ext w W ∧ BoxAt W O1 0 (.int .i64 (st : Int)) ∧ W.cell? ⟨B20, 0, none⟩ = some (.slice a n c) ∧ BoxAt W O5 0 (.int .i64 ((stpN (Mem.evL l) i).1 : Int)) ∧ BoxAt W O9 0 (.int .i64 0) ∧ (stpN (Mem.evL l) i).1 = Mem.overR l st) (fun i A B h hm => by obtain ⟨hsz, e0, hE, bO1_0, hc22, b9, b8, hle⟩ := h; exact ⟨Nat.le_trans hsz hm.size, hm.ext e0 (Nat.le_trans hs0 (Nat.le_trans hs3 (Nat.le_trans hs7 (Nat.le_trans hs11 (Nat.le_trans hs15 (Nat.le_trans hs19 hs24)))))), hm.ext hE (Nat.le_trans hs3 (Nat.le_trans hs7 (Nat.le_trans hs11 (Nat.le_trans hs15 (Nat.le_trans hs19 hs24))))), hm.box bO1_0, hm.cell hc22, hm.box b9, hm.box b8, hle⟩) (fun cd9 i A B h hm => by obtain ⟨rfl, hsz, e0, hE, bO1_0, hc22, b9, b8, hv9⟩ := h; exact ⟨rfl, Nat.le_trans hsz hm.size, hm.ext e0 (Nat.le_trans hs0 (Nat.le_trans hs3 (Nat.le_trans hs7 (Nat.le_trans hs11 (Nat.le_trans hs15 (Nat.le_trans hs19 hs24)))))), hm.ext hE (Nat.le_trans hs3 (Nat.le_trans hs7 (Nat.le_trans hs11 (Nat.le_trans hs15 (Nat.le_trans hs19 hs24))))), hm.box bO1_0, hm.cell hc22, hm.box b9, hm.box b8, hv9⟩) ⟨Nat.le_refl _, e0, hE, bO1_0, hc22, bO5_0, bO9_0, (fun j q hj => by omega)⟩ ?_ ?_ ?_
      ·
        clear bO1_0 bO5_0 bO9_0 hc22 e0 hE
        intro l28 k29 i w26 hii h _
        obtain ⟨hs27, e0, hE, bO1_0, hc22, b9, b8, hle⟩ := h
        have hil : i < (Mem.evL l).length := by rw [Mem.evL_len]; exact hii
        have hG := stpN_at hil
        refine icw_clean [3, 4, 5, 18, 19] (ws' := [(3, .pointer (some ⟨O1, 0, none⟩)), (4, .pointer (some ⟨O5, 0, none⟩)), (5, .pointer (some ⟨O9, 0, none⟩)), (18, .int .i64 ((stpN (Mem.evL l) i).1 : Int)), (19, .int .i64 ((stpN (Mem.evL l) i).2 : Int))]) (by kernel_rfl) (fun L => ?_)
        have hrk30 : RK w23.heap.size (fun k => k = O5 ∨ k = O9) w26 w26 := RK.refl _ _ _
        refine icw_seq ?_
        refine icw_plain ?_
        refine ipl_take (.int .i64 ((stpN (Mem.evL l) i).1 : Int)) rfl (by kernel_rfl) (by kernel_rfl) (by kernel_rfl) (by kernel_rfl) ?_
        refine ipl_nil ?_
        refine iqw_then ?_
        refine icw_plain ?_
        refine ipl_take (.int .i64 ((stpN (Mem.evL l) i).2 : Int)) rfl (by kernel_rfl) (by kernel_rfl) (by kernel_rfl) (by kernel_rfl) ?_
        refine ipl_nil ?_
        refine iqw_asg hrk30 (fun w32 hm31 => ?_)
        replace e0 := hm31.ext e0 (Nat.le_trans hs0 (Nat.le_trans hs3 (Nat.le_trans hs7 (Nat.le_trans hs11 (Nat.le_trans hs15 (Nat.le_trans hs19 hs24))))))
        replace hE := hm31.ext hE (Nat.le_trans hs3 (Nat.le_trans hs7 (Nat.le_trans hs11 (Nat.le_trans hs15 (Nat.le_trans hs19 hs24)))))
        replace bO1_0 := hm31.box bO1_0
        replace hc22 := hm31.cell hc22
        replace b9 := hm31.box b9
        replace b8 := hm31.box b8
        have hs33 := hm31.size
        have hrk34 : RK w23.heap.size (fun k => k = O5 ∨ k = O9) w32 w32 := RK.refl _ _ _
        refine icw_block ?_
        refine icw_seq ?_
        refine icw_plain ?_
        refine ipl_take (.int .i64 ((stpN (Mem.evL l) i).2 : Int)) rfl (by kernel_rfl) (by kernel_rfl) (by kernel_rfl) (by kernel_rfl) ?_
        refine ipl_take (.int .i64 (st : Int)) rfl (by kernel_rfl) (by kernel_rfl) (by kernel_rfl) (ex_load rfl (by kernel_rfl) (ld3 (bO1_0.1))) ?_
        by_cases hc35 : ((stpN (Mem.evL l) i).2 : Int) > (st : Int)
        ·
          refine ipl_take (.bool true) rfl (by kernel_rfl) (by kernel_rfl) (by kernel_rfl) (ev_dec (show _ = Result.ok (Next.value (Value.bool (decide (((stpN (Mem.evL l) i).2 : Int) > (st : Int))))) _ from by kernel_rfl) (hc35)) ?_
          refine ipl_nil ?_
          refine iqw_then ?_
          refine icw_t (by kernel_rfl) ?_
          refine icw_seq ?_
          refine icw_plain ?_
          refine ipl_take (.int .i64 ((stpN (Mem.evL l) i).1 : Int)) rfl (by kernel_rfl) (by kernel_rfl) (by kernel_rfl) (by kernel_rfl) ?_
          refine ipl_put rfl (by kernel_rfl) (by kernel_rfl) (sn_set (O := O5) (j := 0) (v := .int .i64 ((stpN (Mem.evL l) i).1 : Int)) (ex_store (p := .pointer (some ⟨O5, 0, none⟩)) (v := .int .i64 ((stpN (Mem.evL l) i).1 : Int)) rfl (by kernel_rfl) (by kernel_rfl) (st3 b9.1 b9.2)) b9 ?_)
          intro X36 ho hv0 hk
          replace e0 := ho.ext e0 (Nat.le_trans (Nat.le_trans hs0 hs3) (Nat.le_of_eq hzO5))
          replace hE := ho.ext hE (Nat.le_trans hs3 (Nat.le_of_eq hzO5))
          replace bO1_0 := ho.box (Nat.ne_of_gt (Nat.lt_of_lt_of_le lt4 (Nat.le_of_eq hzO5))) bO1_0
          replace hc22 := ho.cell (Nat.ne_of_lt (Nat.lt_of_lt_of_le lt8 (Nat.le_trans (Nat.le_trans hs11 (Nat.le_trans hs15 hs19)) hn21))) hc22
          replace b8 := ho.box (Nat.ne_of_lt (Nat.lt_of_lt_of_le lt8 (Nat.le_of_eq hzO9))) b8
          replace hrk34 := hrk34.turn ho (.inl ((.inl rfl)))
          have hs37 : w32.heap.size ≤ X36.heap.size := Nat.le_of_eq ho.size.symm
          clear ho hk b9
          have b9 := hv0; clear hv0
          refine ipl_put rfl (by kernel_rfl) (by kernel_rfl) (sn_set (O := O9) (j := 0) (v := .int .i64 0) (ex_store (p := .pointer (some ⟨O9, 0, none⟩)) (v := .int .i64 0) rfl (by kernel_rfl) (by kernel_rfl) (st36 b8.1 b8.2)) b8 ?_)
          intro X38 ho hv0 hk
          replace e0 := ho.ext e0 (Nat.le_trans (Nat.le_trans hs0 (Nat.le_trans hs3 hs7)) (Nat.le_of_eq hzO9))
          replace hE := ho.ext hE (Nat.le_trans (Nat.le_trans hs3 hs7) (Nat.le_of_eq hzO9))
          replace bO1_0 := ho.box (Nat.ne_of_gt (Nat.lt_of_lt_of_le lt4 (Nat.le_trans hs7 (Nat.le_of_eq hzO9)))) bO1_0
          replace hc22 := ho.cell (Nat.ne_of_lt (Nat.lt_of_lt_of_le lt12 (Nat.le_trans (Nat.le_trans hs15 hs19) hn21))) hc22
          replace hrk34 := hrk34.turn ho (.inl ((.inr rfl)))
          replace b9 := ho.box (Nat.ne_of_gt (Nat.lt_of_lt_of_le lt8 (Nat.le_of_eq hzO9))) b9
          have hs39 : X36.heap.size ≤ X38.heap.size := Nat.le_of_eq ho.size.symm
          clear ho hk b8
          have b8 := hv0; clear hv0
          refine ipl_nil ?_
          refine iqw_then ?_
          refine icw_ret ?_
          refine iqw_block_ret ?_
          exact iqw_brk_ret hrk34 ⟨rfl, (Nat.le_trans hs27 (Nat.le_trans hs33 (Nat.le_trans hs37 hs39))), e0, hE, bO1_0, hc22, b9, b8, (Mem.over_yes (Mem.okL_u hok9) (Mem.okL_f hok9) hsb.1 hil (by omega) hle)⟩
        ·
          refine ipl_take (.bool false) rfl (by kernel_rfl) (by kernel_rfl) (by kernel_rfl) (ev_ndec (show _ = Result.ok (Next.value (Value.bool (decide (((stpN (Mem.evL l) i).2 : Int) > (st : Int))))) _ from by kernel_rfl) (hc35)) ?_
          refine ipl_nil ?_
          refine iqw_then ?_
          refine icw_f (by kernel_rfl) ?_
          refine icw_skip ?_
          refine iqw_block ?_
          exact iqw_next hrk34 ⟨(Nat.le_trans hs27 hs33), e0, hE, bO1_0, hc22, b9, b8, (Mem.le_next (P := fun q => q.2 ≤ st) hle hil (by omega))⟩
      ·
        clear bO1_0 bO5_0 bO9_0 hc22 e0 hE
        intro D40 w41 hD44 hDl45 h hmk43
        obtain ⟨hs42, e0, hE, bO1_0, hc22, b9, b8, hle⟩ := h
        have hv9 := Mem.over_no (Mem.okL_u hok9) (Mem.okL_f hok9) hsb.1 hle
        refine iqw_block ?_
        refine iqw_then ?_
        refine icw_seq ?_
        refine icw_plain ?_
        refine ipl_put rfl (by kernel_rfl) (by kernel_rfl) (sn_set (O := O5) (j := 0) (v := .int .i64 (-1 : Int)) (ex_store (p := .pointer (some ⟨O5, 0, none⟩)) (v := .int .i64 (-1 : Int)) rfl (by kernel_rfl) (by kernel_rfl) (st3 b9.1 b9.2)) b9 ?_)
        intro X46 ho hv0 hk
        replace e0 := ho.ext e0 (Nat.le_trans (Nat.le_trans hs0 hs3) (Nat.le_of_eq hzO5))
        replace hE := ho.ext hE (Nat.le_trans hs3 (Nat.le_of_eq hzO5))
        replace bO1_0 := ho.box (Nat.ne_of_gt (Nat.lt_of_lt_of_le lt4 (Nat.le_of_eq hzO5))) bO1_0
        replace hc22 := ho.cell (Nat.ne_of_lt (Nat.lt_of_lt_of_le lt8 (Nat.le_trans (Nat.le_trans hs11 (Nat.le_trans hs15 hs19)) hn21))) hc22
        replace b8 := ho.box (Nat.ne_of_lt (Nat.lt_of_lt_of_le lt8 (Nat.le_of_eq hzO9))) b8
        replace hmk43 := mk_turn hmk43 ho
        have hs47 : w41.heap.size ≤ X46.heap.size := Nat.le_of_eq ho.size.symm
        clear ho hk b9
        have b9 := hv0; clear hv0
        refine ipl_put rfl (by kernel_rfl) (by kernel_rfl) (sn_set (O := O9) (j := 0) (v := .int .i64 0) (ex_store (p := .pointer (some ⟨O9, 0, none⟩)) (v := .int .i64 0) rfl (by kernel_rfl) (by kernel_rfl) (st36 b8.1 b8.2)) b8 ?_)
        intro X48 ho hv0 hk
        replace e0 := ho.ext e0 (Nat.le_trans (Nat.le_trans hs0 (Nat.le_trans hs3 hs7)) (Nat.le_of_eq hzO9))
        replace hE := ho.ext hE (Nat.le_trans (Nat.le_trans hs3 hs7) (Nat.le_of_eq hzO9))
        replace bO1_0 := ho.box (Nat.ne_of_gt (Nat.lt_of_lt_of_le lt4 (Nat.le_trans hs7 (Nat.le_of_eq hzO9)))) bO1_0
        replace hc22 := ho.cell (Nat.ne_of_lt (Nat.lt_of_lt_of_le lt12 (Nat.le_trans (Nat.le_trans hs15 hs19) hn21))) hc22
        replace hmk43 := mk_turn hmk43 ho
        replace b9 := ho.box (Nat.ne_of_gt (Nat.lt_of_lt_of_le lt8 (Nat.le_of_eq hzO9))) b9
        have hs49 : X46.heap.size ≤ X48.heap.size := Nat.le_of_eq ho.size.symm
        clear ho hk b8
        have b8 := hv0; clear hv0
        refine ipl_nil ?_
        refine iqw_then ?_
        refine icw_ret ?_
        refine iqw_ret w.heap.size [.int .i64 (-1 : Int), .int .i64 0] rfl (marksC (Nat.le_trans (Nat.le_trans hs3 (Nat.le_trans hs7 (Nat.le_trans hs11 (Nat.le_trans hs15 (Nat.le_trans hs19 hs24))))) hD44) hmk43 (fun _ h => by cases h)) (by simp) (fun W9 hm9 => ?_)
        replace e0 := hm9.ext e0 hs0
        replace hE := hm9.ext hE (Nat.le_refl _)
        replace bO1_0 := hm9.box bO1_0
        replace hc22 := hm9.cell hc22
        replace b9 := hm9.box b9
        replace b8 := hm9.box b8
        have hs50 := hm9.size
        refine ⟨⟨⟨_, by kernel_rfl, res_ld (ld3 (b9.1))⟩, ⟨_, by kernel_rfl, res_ld (ld36 (b8.1))⟩, trivial⟩, ?_⟩
        have hB : (Mem.okL l && Globe.inB st 0 1000000) = true := by rw [hb13, hb16]; rfl
        rw [hB, Mem.ansV_t, ← hv9]; exact ⟨rfl, hE⟩
      ·
        clear bO1_0 bO5_0 bO9_0 hc22 e0 hE
        intro cd9 D51 i w52 hD55 hDl56 hii h hmk54
        obtain ⟨rfl, hs53, e0, hE, bO1_0, hc22, b9, b8, hv9⟩ := h
        refine icw_ret ?_
        refine iqw_block_ret ?_
        refine iqw_then_ret ?_
        refine iqw_ret w.heap.size [.int .i64 ((stpN (Mem.evL l) i).1 : Int), .int .i64 0] rfl (marksC (Nat.le_trans (Nat.le_trans hs3 (Nat.le_trans hs7 (Nat.le_trans hs11 (Nat.le_trans hs15 (Nat.le_trans hs19 hs24))))) hD55) hmk54 (fun _ h => by cases h)) (by simp) (fun W9 hm9 => ?_)
        replace e0 := hm9.ext e0 hs0
        replace hE := hm9.ext hE (Nat.le_refl _)
        replace bO1_0 := hm9.box bO1_0
        replace hc22 := hm9.cell hc22
        replace b9 := hm9.box b9
        replace b8 := hm9.box b8
        have hs57 := hm9.size
        refine ⟨⟨⟨_, by kernel_rfl, res_ld (ld3 (b9.1))⟩, ⟨_, by kernel_rfl, res_ld (ld36 (b8.1))⟩, trivial⟩, ?_⟩
        have hB : (Mem.okL l && Globe.inB st 0 1000000) = true := by rw [hb13, hb16]; rfl
        rw [hB, Mem.ansV_t, ← hv9]; exact ⟨rfl, hE⟩
    ·
      refine ipl_step rfl (by kernel_rfl) (by kernel_rfl) (by kernel_rfl) (sn_call (f := 46) (args := #[.int .i64 (st : Int), .int .i64 0, .int .i64 1000000]) (by kernel_rfl) ((memory_isIn_r (r := false) st 0 1000000 _ (hb16)).mono ?_))
      rintro e w58 ⟨rfl, hb⟩
      replace e0 := e0.trans hb
      replace hE := hE.trans hb
      replace bO1_0 := BoxAt.ext hb bO1_0
      replace bO5_0 := BoxAt.ext hb bO5_0
      replace bO9_0 := BoxAt.ext hb bO9_0
      have hs59 := hb.size
      clear hb
      refine ⟨_, rfl, ?_⟩
      refine ipl_take (.bool true) rfl (by kernel_rfl) (by kernel_rfl) (by kernel_rfl) (by kernel_rfl) ?_
      refine ipl_take (.bool true) rfl (by kernel_rfl) (by kernel_rfl) (by kernel_rfl) (by kernel_rfl) ?_
      refine ipl_nil ?_
      refine iqw_then ?_
      refine icw_t (by kernel_rfl) ?_
      refine icw_seq ?_
      refine icw_plain ?_
      refine ipl_put rfl (by kernel_rfl) (by kernel_rfl) (sn_set (O := O5) (j := 0) (v := .int .i64 0) (ex_store (p := .pointer (some ⟨O5, 0, none⟩)) (v := .int .i64 0) rfl (by kernel_rfl) (by kernel_rfl) (st3 bO5_0.1 bO5_0.2)) bO5_0 ?_)
      intro X60 ho hv0 hk
      replace e0 := ho.ext e0 (Nat.le_trans (Nat.le_trans hs0 hs3) (Nat.le_of_eq hzO5))
      replace hE := ho.ext hE (Nat.le_trans hs3 (Nat.le_of_eq hzO5))
      replace bO1_0 := ho.box (Nat.ne_of_gt (Nat.lt_of_lt_of_le lt4 (Nat.le_of_eq hzO5))) bO1_0
      replace bO9_0 := ho.box (Nat.ne_of_lt (Nat.lt_of_lt_of_le lt8 (Nat.le_of_eq hzO9))) bO9_0
      have hs61 : w58.heap.size ≤ X60.heap.size := Nat.le_of_eq ho.size.symm
      clear ho hk bO5_0
      have bO5_0 := hv0; clear hv0
      refine ipl_put rfl (by kernel_rfl) (by kernel_rfl) (sn_set (O := O9) (j := 0) (v := .int .i64 110) (ex_store (p := .pointer (some ⟨O9, 0, none⟩)) (v := .int .i64 110) rfl (by kernel_rfl) (by kernel_rfl) (st36 bO9_0.1 bO9_0.2)) bO9_0 ?_)
      intro X62 ho hv0 hk
      replace e0 := ho.ext e0 (Nat.le_trans (Nat.le_trans hs0 (Nat.le_trans hs3 hs7)) (Nat.le_of_eq hzO9))
      replace hE := ho.ext hE (Nat.le_trans (Nat.le_trans hs3 hs7) (Nat.le_of_eq hzO9))
      replace bO1_0 := ho.box (Nat.ne_of_gt (Nat.lt_of_lt_of_le lt4 (Nat.le_trans hs7 (Nat.le_of_eq hzO9)))) bO1_0
      replace bO5_0 := ho.box (Nat.ne_of_gt (Nat.lt_of_lt_of_le lt8 (Nat.le_of_eq hzO9))) bO5_0
      have hs63 : X60.heap.size ≤ X62.heap.size := Nat.le_of_eq ho.size.symm
      clear ho hk bO9_0
      have bO9_0 := hv0; clear hv0
      refine ipl_nil ?_
      refine iqw_then ?_
      refine icw_ret ?_
      refine iqw_then_ret ?_
      refine iqw_ret0 [.int .i64 0, .int .i64 110] rfl ⟨⟨_, by kernel_rfl, res_ld (ld3 (bO5_0.1))⟩, ⟨_, by kernel_rfl, res_ld (ld36 (bO9_0.1))⟩, trivial⟩ ?_
      have hB : (Mem.okL l && Globe.inB st 0 1000000) = false := by rw [hb16]; simp
      rw [hB]; exact ⟨rfl, hE⟩
  ·
    refine ipl_step rfl (by kernel_rfl) (by kernel_rfl) (by kernel_rfl) (sn_call (f := 18) (args := #[.slice a n c]) (by kernel_rfl) ((Valid_r (l := l) (r := false) _ _ h e0 hb13).mono ?_))
    rintro e w64 ⟨rfl, hb⟩
    replace e0 := e0.trans hb
    replace hE := hE.trans hb
    replace bO1_0 := BoxAt.ext hb bO1_0
    replace bO5_0 := BoxAt.ext hb bO5_0
    replace bO9_0 := BoxAt.ext hb bO9_0
    have hs65 := hb.size
    clear hb
    refine ⟨_, rfl, ?_⟩
    refine ipl_take (.bool true) rfl (by kernel_rfl) (by kernel_rfl) (by kernel_rfl) (by kernel_rfl) ?_
    refine ipl_take (.bool true) rfl (by kernel_rfl) (by kernel_rfl) (by kernel_rfl) (by kernel_rfl) ?_
    refine ipl_skip rfl (by kernel_rfl) (by kernel_rfl) (by kernel_rfl) ?_
    refine ipl_skip rfl (by kernel_rfl) (by kernel_rfl) (by kernel_rfl) ?_
    refine ipl_skip rfl (by kernel_rfl) (by kernel_rfl) (by kernel_rfl) ?_
    refine ipl_take (.bool true) rfl (by kernel_rfl) (by kernel_rfl) (by kernel_rfl) (by kernel_rfl) ?_
    refine ipl_nil ?_
    refine iqw_then ?_
    refine icw_t (by kernel_rfl) ?_
    refine icw_seq ?_
    refine icw_plain ?_
    refine ipl_put rfl (by kernel_rfl) (by kernel_rfl) (sn_set (O := O5) (j := 0) (v := .int .i64 0) (ex_store (p := .pointer (some ⟨O5, 0, none⟩)) (v := .int .i64 0) rfl (by kernel_rfl) (by kernel_rfl) (st3 bO5_0.1 bO5_0.2)) bO5_0 ?_)
    intro X66 ho hv0 hk
    replace e0 := ho.ext e0 (Nat.le_trans (Nat.le_trans hs0 hs3) (Nat.le_of_eq hzO5))
    replace hE := ho.ext hE (Nat.le_trans hs3 (Nat.le_of_eq hzO5))
    replace bO1_0 := ho.box (Nat.ne_of_gt (Nat.lt_of_lt_of_le lt4 (Nat.le_of_eq hzO5))) bO1_0
    replace bO9_0 := ho.box (Nat.ne_of_lt (Nat.lt_of_lt_of_le lt8 (Nat.le_of_eq hzO9))) bO9_0
    have hs67 : w64.heap.size ≤ X66.heap.size := Nat.le_of_eq ho.size.symm
    clear ho hk bO5_0
    have bO5_0 := hv0; clear hv0
    refine ipl_put rfl (by kernel_rfl) (by kernel_rfl) (sn_set (O := O9) (j := 0) (v := .int .i64 110) (ex_store (p := .pointer (some ⟨O9, 0, none⟩)) (v := .int .i64 110) rfl (by kernel_rfl) (by kernel_rfl) (st36 bO9_0.1 bO9_0.2)) bO9_0 ?_)
    intro X68 ho hv0 hk
    replace e0 := ho.ext e0 (Nat.le_trans (Nat.le_trans hs0 (Nat.le_trans hs3 hs7)) (Nat.le_of_eq hzO9))
    replace hE := ho.ext hE (Nat.le_trans (Nat.le_trans hs3 hs7) (Nat.le_of_eq hzO9))
    replace bO1_0 := ho.box (Nat.ne_of_gt (Nat.lt_of_lt_of_le lt4 (Nat.le_trans hs7 (Nat.le_of_eq hzO9)))) bO1_0
    replace bO5_0 := ho.box (Nat.ne_of_gt (Nat.lt_of_lt_of_le lt8 (Nat.le_of_eq hzO9))) bO5_0
    have hs69 : X66.heap.size ≤ X68.heap.size := Nat.le_of_eq ho.size.symm
    clear ho hk bO9_0
    have bO9_0 := hv0; clear hv0
    refine ipl_nil ?_
    refine iqw_then ?_
    refine icw_ret ?_
    refine iqw_then_ret ?_
    refine iqw_ret0 [.int .i64 0, .int .i64 110] rfl ⟨⟨_, by kernel_rfl, res_ld (ld3 (bO5_0.1))⟩, ⟨_, by kernel_rfl, res_ld (ld36 (bO9_0.1))⟩, trivial⟩ ?_
    have hB : (Mem.okL l && Globe.inB st 0 1000000) = false := by rw [hb13]; simp
    rw [hB]; exact ⟨rfl, hE⟩
set_option maxRecDepth 1000000 in
set_option maxHeartbeats 4000000 in
theorem Room_c {w0 : World} {a : Option Addr} {n : Nat} {l : List Mem.St} (st f t : Int) (c : Nat) (w : World) (h : StsAt w0 a n l) (e0 : Ext w0 w) : Calls Try.prog 24 #[.slice a n c, .int .i64 st, .agg #[.int .i64 f, .int .i64 t]] w fun e w' => e = .returned (.tuple #[.int .i64 (Mem.ansV (Mem.okL l && Globe.inB st 0 1000000 && Mem.spB (f, t)) (max 0 (st - Mem.topR l f t))), .int .i64 (Mem.ansE (Mem.okL l && Globe.inB st 0 1000000 && Mem.spB (f, t)))]) ∧ Ext w w' := by
  have hln := h.1; have hmx := h.2.1
  have hs0 := e0.size
  refine icalls_cw 47 [(2, .agg #[.int .i64 (f : Int), .int .i64 (t : Int)]), (1, .int .i64 (st : Int)), (0, .slice a n c)] Try.func24 rfl Try.ntmps24 (by kernel_rfl) (by kernel_rfl) (fun L mm => ?_)
  have hE : Ext w w := Ext.refl w
  refine icw_seq ?_
  refine icw_plain ?_
  refine ipl_step rfl (by kernel_rfl) (by kernel_rfl) (by kernel_rfl) (sn_new (us := #[.int .i64 (f : Int), .int .i64 (t : Int)]) (t := 24) (by kernel_rfl) ?_)
  intro O1 X2 hO hOs hb hbx
  have hzO1 := hO; have hyO1 := hOs; clear hO hOs
  have bO1_0 : BoxAt X2 O1 0 (.int .i64 (f : Int)) := hbx 0 _ rfl
  have bO1_1 : BoxAt X2 O1 1 (.int .i64 (t : Int)) := hbx 1 _ rfl
  clear hbx
  replace e0 := e0.trans hb
  replace hE := hE.trans hb
  have hs3 := hb.size
  clear hb
  have lt4 := bO1_0.lt
  refine ipl_take (.int .i64 0) rfl (by kernel_rfl) (by kernel_rfl) (by kernel_rfl) (by kernel_rfl) ?_
  refine ipl_take (.int .i64 0) rfl (by kernel_rfl) (by kernel_rfl) (by kernel_rfl) (by kernel_rfl) ?_
  refine ipl_nil ?_
  refine iqw_then ?_
  refine icw_seq ?_
  refine icw_seq ?_
  refine icw_plain ?_
  refine ipl_take (.slice a n c) rfl (by kernel_rfl) (by kernel_rfl) (by kernel_rfl) (by kernel_rfl) ?_
  rcases Bool.eq_false_or_eq_true (Mem.okL l) with hb5 | hb5
  ·
    refine ipl_step rfl (by kernel_rfl) (by kernel_rfl) (by kernel_rfl) (sn_call (f := 18) (args := #[.slice a n c]) (by kernel_rfl) ((Valid_r (l := l) (r := true) _ _ h e0 hb5).mono ?_))
    rintro e w6 ⟨rfl, hb⟩
    replace e0 := e0.trans hb
    replace hE := hE.trans hb
    replace bO1_0 := BoxAt.ext hb bO1_0
    replace bO1_1 := BoxAt.ext hb bO1_1
    have hs7 := hb.size
    clear hb
    refine ⟨_, rfl, ?_⟩
    refine ipl_take (.bool false) rfl (by kernel_rfl) (by kernel_rfl) (by kernel_rfl) (by kernel_rfl) ?_
    refine ipl_take (.bool false) rfl (by kernel_rfl) (by kernel_rfl) (by kernel_rfl) (by kernel_rfl) ?_
    refine ipl_take (.int .i64 (st : Int)) rfl (by kernel_rfl) (by kernel_rfl) (by kernel_rfl) (by kernel_rfl) ?_
    rcases Bool.eq_false_or_eq_true (Globe.inB st 0 1000000) with hb8 | hb8
    ·
      have hq9 := Globe.inB_t.1 hb8
      refine ipl_step rfl (by kernel_rfl) (by kernel_rfl) (by kernel_rfl) (sn_call (f := 46) (args := #[.int .i64 (st : Int), .int .i64 0, .int .i64 1000000]) (by kernel_rfl) ((memory_isIn_r (r := true) st 0 1000000 _ (hb8)).mono ?_))
      rintro e w10 ⟨rfl, hb⟩
      replace e0 := e0.trans hb
      replace hE := hE.trans hb
      replace bO1_0 := BoxAt.ext hb bO1_0
      replace bO1_1 := BoxAt.ext hb bO1_1
      have hs11 := hb.size
      clear hb
      refine ⟨_, rfl, ?_⟩
      refine ipl_take (.bool false) rfl (by kernel_rfl) (by kernel_rfl) (by kernel_rfl) (by kernel_rfl) ?_
      refine ipl_take (.bool false) rfl (by kernel_rfl) (by kernel_rfl) (by kernel_rfl) (by kernel_rfl) ?_
      refine ipl_take (.bool false) rfl (by kernel_rfl) (by kernel_rfl) (by kernel_rfl) (by kernel_rfl) ?_
      refine ipl_take (.agg #[.int .i64 (f : Int), .int .i64 (t : Int)]) rfl (by kernel_rfl) (by kernel_rfl) (by kernel_rfl) (ex_load rfl (by kernel_rfl) (ld24 (bO1_0.1) (bO1_1.1))) ?_
      rcases Bool.eq_false_or_eq_true (Mem.spB (f, t)) with hb12 | hb12
      ·
        have hq13 := Mem.spB_t.1 hb12; simp only [] at hq13
        refine ipl_step rfl (by kernel_rfl) (by kernel_rfl) (by kernel_rfl) (sn_call (f := 47) (args := #[.agg #[.int .i64 (f : Int), .int .i64 (t : Int)]]) (by kernel_rfl) ((isSpell_r (r := true) f t _ (hb12)).mono ?_))
        rintro e w14 ⟨rfl, hb⟩
        replace e0 := e0.trans hb
        replace hE := hE.trans hb
        replace bO1_0 := BoxAt.ext hb bO1_0
        replace bO1_1 := BoxAt.ext hb bO1_1
        have hs15 := hb.size
        clear hb
        refine ⟨_, rfl, ?_⟩
        refine ipl_take (.bool false) rfl (by kernel_rfl) (by kernel_rfl) (by kernel_rfl) (by kernel_rfl) ?_
        refine ipl_take (.bool false) rfl (by kernel_rfl) (by kernel_rfl) (by kernel_rfl) (by kernel_rfl) ?_
        refine ipl_nil ?_
        refine iqw_then ?_
        refine icw_clean [0, 1, 5, 24] (ws' := [(0, .slice a n c), (1, .int .i64 (st : Int)), (5, .pointer (some ⟨O1, 0, none⟩)), (24, .bool false)]) (by kernel_rfl) (fun L => ?_)
        refine icw_f (by kernel_rfl) ?_
        refine icw_skip ?_
        refine iqw_then ?_
        refine icw_seq ?_
        refine icw_plain ?_
        refine ipl_step rfl (by kernel_rfl) (by kernel_rfl) (by kernel_rfl) (sn_new (us := #[.int .i64 0]) (t := 3) (by kernel_rfl) ?_)
        intro O16 X17 hO hOs hb hbx
        have hzO16 := hO; have hyO16 := hOs; clear hO hOs
        have bO16_0 : BoxAt X17 O16 0 (.int .i64 0) := hbx 0 _ rfl
        clear hbx
        replace e0 := e0.trans hb
        replace hE := hE.trans hb
        replace bO1_0 := BoxAt.ext hb bO1_0
        replace bO1_1 := BoxAt.ext hb bO1_1
        have hs18 := hb.size
        clear hb
        have lt19 := bO16_0.lt
        refine ipl_step rfl (by kernel_rfl) (by kernel_rfl) (by kernel_rfl) (sn_new (us := #[.int .i64 0]) (t := 3) (by kernel_rfl) ?_)
        intro O20 X21 hO hOs hb hbx
        have hzO20 := hO; have hyO20 := hOs; clear hO hOs
        have bO20_0 : BoxAt X21 O20 0 (.int .i64 0) := hbx 0 _ rfl
        clear hbx
        replace e0 := e0.trans hb
        replace hE := hE.trans hb
        replace bO1_0 := BoxAt.ext hb bO1_0
        replace bO1_1 := BoxAt.ext hb bO1_1
        replace bO16_0 := BoxAt.ext hb bO16_0
        have hs22 := hb.size
        clear hb
        have lt23 := bO20_0.lt
        refine ipl_put rfl (by kernel_rfl) (by kernel_rfl) (sn_set (O := O16) (j := 0) (v := .int .i64 0) (ex_store (p := .pointer (some ⟨O16, 0, none⟩)) (v := .int .i64 0) rfl (by kernel_rfl) (by kernel_rfl) (st3 bO16_0.1 bO16_0.2)) bO16_0 ?_)
        intro X24 ho hv0 hk
        replace e0 := ho.ext e0 (Nat.le_trans (Nat.le_trans hs0 (Nat.le_trans hs3 (Nat.le_trans hs7 (Nat.le_trans hs11 hs15)))) (Nat.le_of_eq hzO16))
        replace hE := ho.ext hE (Nat.le_trans (Nat.le_trans hs3 (Nat.le_trans hs7 (Nat.le_trans hs11 hs15))) (Nat.le_of_eq hzO16))
        replace bO1_0 := ho.box (Nat.ne_of_gt (Nat.lt_of_lt_of_le lt4 (Nat.le_trans (Nat.le_trans hs7 (Nat.le_trans hs11 hs15)) (Nat.le_of_eq hzO16)))) bO1_0
        replace bO1_1 := ho.box (Nat.ne_of_gt (Nat.lt_of_lt_of_le lt4 (Nat.le_trans (Nat.le_trans hs7 (Nat.le_trans hs11 hs15)) (Nat.le_of_eq hzO16)))) bO1_1
        replace bO20_0 := ho.box (Nat.ne_of_lt (Nat.lt_of_lt_of_le lt19 (Nat.le_of_eq hzO20))) bO20_0
        have hs25 : X21.heap.size ≤ X24.heap.size := Nat.le_of_eq ho.size.symm
        clear ho hk bO16_0
        have bO16_0 := hv0; clear hv0
        refine ipl_put rfl (by kernel_rfl) (by kernel_rfl) (sn_set (O := O20) (j := 0) (v := .int .i64 0) (ex_store (p := .pointer (some ⟨O20, 0, none⟩)) (v := .int .i64 0) rfl (by kernel_rfl) (by kernel_rfl) (st3 bO20_0.1 bO20_0.2)) bO20_0 ?_)
        intro X26 ho hv0 hk
        replace e0 := ho.ext e0 (Nat.le_trans (Nat.le_trans hs0 (Nat.le_trans hs3 (Nat.le_trans hs7 (Nat.le_trans hs11 (Nat.le_trans hs15 hs18))))) (Nat.le_of_eq hzO20))
        replace hE := ho.ext hE (Nat.le_trans (Nat.le_trans hs3 (Nat.le_trans hs7 (Nat.le_trans hs11 (Nat.le_trans hs15 hs18)))) (Nat.le_of_eq hzO20))
        replace bO1_0 := ho.box (Nat.ne_of_gt (Nat.lt_of_lt_of_le lt4 (Nat.le_trans (Nat.le_trans hs7 (Nat.le_trans hs11 (Nat.le_trans hs15 hs18))) (Nat.le_of_eq hzO20)))) bO1_0
        replace bO1_1 := ho.box (Nat.ne_of_gt (Nat.lt_of_lt_of_le lt4 (Nat.le_trans (Nat.le_trans hs7 (Nat.le_trans hs11 (Nat.le_trans hs15 hs18))) (Nat.le_of_eq hzO20)))) bO1_1
        replace bO16_0 := ho.box (Nat.ne_of_gt (Nat.lt_of_lt_of_le lt19 (Nat.le_of_eq hzO20))) bO16_0
        have hs27 : X24.heap.size ≤ X26.heap.size := Nat.le_of_eq ho.size.symm
        clear ho hk bO20_0
        have bO20_0 := hv0; clear hv0
        refine ipl_nil ?_
        refine iqw_then ?_
        refine icw_seq ?_
        refine icw_seq ?_
        refine icw_plain ?_
        refine ipl_take (.slice a n c) rfl (by kernel_rfl) (by kernel_rfl) (by kernel_rfl) (by kernel_rfl) ?_
        refine ipl_step rfl (by kernel_rfl) (by kernel_rfl) (by kernel_rfl) (sn_call (f := 33) (args := #[.slice a n c]) (by kernel_rfl) ((fills_c _ _ _ _).mono ?_))
        rintro e w31 ⟨B28, rfl, hn29, hc30, hb⟩
        replace e0 := e0.trans hb
        replace hE := hE.trans hb
        replace bO1_0 := BoxAt.ext hb bO1_0
        replace bO1_1 := BoxAt.ext hb bO1_1
        replace bO16_0 := BoxAt.ext hb bO16_0
        replace bO20_0 := BoxAt.ext hb bO20_0
        have hs32 := hb.size
        clear hb
        have lt33 := World.block_lt_of_cell? _ _ hc30
        refine ⟨_, rfl, ?_⟩
        refine ipl_nil ?_
        refine iqw_then ?_
        refine icw_block ?_
        have hok9 := hb5
        have hsb := Globe.inB_t.1 hb8
        have hsp := Mem.spB_t.1 hb12; simp only [] at hsp
        refine icw_range (ps := [27, 28]) (by kernel_rfl) (enters_of Try.func51 (by kernel_rfl) rfl) (fills_seq (X := (fun k => k = O16 ∨ k = O20)) h hok9 e0 hc30 (fun k hk => hk.elim (fun e => e ▸ (Nat.lt_of_lt_of_le lt19 (Nat.le_trans hs22 (Nat.le_trans hs25 (Nat.le_trans hs27 hs32))))) (fun e => e ▸ (Nat.lt_of_lt_of_le lt23 (Nat.le_trans hs25 (Nat.le_trans hs27 hs32)))))) (Ext.refl _) (fun _ => rfl) (by kernel_rfl) (fun i W => w31.heap.size ≤ W.heap.size ∧ Ext w0 W ∧ Ext w W ∧ BoxAt W O1 0 (.int .i64 (f : Int)) ∧ BoxAt W O1 1 (.int .i64 (t : Int)) ∧ W.cell? ⟨B28, 0, none⟩ = some (.slice a n c) ∧ BoxAt W O16 0 (.int .i64 ((((Mem.evL l).take i).foldl (Mem.roomStep f) (0, 0)).1 : Int)) ∧ BoxAt W O20 0 (.int .i64 ((((Mem.evL l).take i).foldl (Mem.roomStep f) (0, 0)).2 : Int)) ∧ (∀ (j : Nat) q, j < i → (Mem.evL l)[j]? = some q → q.1 < t)) (fun cd9 i W => cd9 = .exit 0 ∧ w31.heap.size ≤ W.heap.size ∧ Ext w0 W ∧ Ext w W ∧ BoxAt W O1 0 (.int .i64 (f : Int)) ∧ BoxAt W O1 1 (.int .i64 (t : Int)) ∧ W.cell? ⟨B28, 0, none⟩ = some (.slice a n c) ∧ BoxAt W O16 0 (.int .i64 ((((Mem.evL l).take i).foldl (Mem.roomStep f) (0, 0)).1 : Int)) ∧ BoxAt W O20 0 (.int .i64 ((((Mem.evL l).take i).foldl (Mem.roomStep f) (0, 0)).2 : Int)) ∧ (∀ (j : Nat) q, j < i → (Mem.evL l)[j]? = some q → q.1 < t) ∧ (∀ q, (Mem.evL l)[i]? = some q → t ≤ q.1)) (fun i A B h hm => by obtain ⟨hsz, e0, hE, bO1_0, bO1_1, hc30, b9, b8, hle⟩ := h; exact ⟨Nat.le_trans hsz hm.size, hm.ext e0 (Nat.le_trans hs0 (Nat.le_trans hs3 (Nat.le_trans hs7 (Nat.le_trans hs11 (Nat.le_trans hs15 (Nat.le_trans hs18 (Nat.le_trans hs22 (Nat.le_trans hs25 (Nat.le_trans hs27 hs32))))))))), hm.ext hE (Nat.le_trans hs3 (Nat.le_trans hs7 (Nat.le_trans hs11 (Nat.le_trans hs15 (Nat.le_trans hs18 (Nat.le_trans hs22 (Nat.le_trans hs25 (Nat.le_trans hs27 hs32)))))))), hm.box bO1_0, hm.box bO1_1, hm.cell hc30, hm.box b9, hm.box b8, hle⟩) (fun cd9 i A B h hm => by obtain ⟨rfl, hsz, e0, hE, bO1_0, bO1_1, hc30, b9, b8, hle, hgt⟩ := h; exact ⟨rfl, Nat.le_trans hsz hm.size, hm.ext e0 (Nat.le_trans hs0 (Nat.le_trans hs3 (Nat.le_trans hs7 (Nat.le_trans hs11 (Nat.le_trans hs15 (Nat.le_trans hs18 (Nat.le_trans hs22 (Nat.le_trans hs25 (Nat.le_trans hs27 hs32))))))))), hm.ext hE (Nat.le_trans hs3 (Nat.le_trans hs7 (Nat.le_trans hs11 (Nat.le_trans hs15 (Nat.le_trans hs18 (Nat.le_trans hs22 (Nat.le_trans hs25 (Nat.le_trans hs27 hs32)))))))), hm.box bO1_0, hm.box bO1_1, hm.cell hc30, hm.box b9, hm.box b8, hle, hgt⟩) ⟨Nat.le_refl _, e0, hE, bO1_0, bO1_1, hc30, bO16_0, bO20_0, (fun j q hj => by omega)⟩ ?_ ?_ ?_
        ·
          clear bO1_0 bO1_1 bO16_0 bO20_0 hc30 e0 hE
          intro l36 k37 i w34 hii h _
          obtain ⟨hs35, e0, hE, bO1_0, bO1_1, hc30, b9, b8, hle⟩ := h
          have hil : i < (Mem.evL l).length := by rw [Mem.evL_len]; exact hii
          have hG := stpN_at hil
          refine icw_clean [5, 8, 9, 27, 28] (ws' := [(5, .pointer (some ⟨O1, 0, none⟩)), (8, .pointer (some ⟨O16, 0, none⟩)), (9, .pointer (some ⟨O20, 0, none⟩)), (27, .int .i64 ((stpN (Mem.evL l) i).1 : Int)), (28, .int .i64 ((stpN (Mem.evL l) i).2 : Int))]) (by kernel_rfl) (fun L => ?_)
          have hrk38 : RK w31.heap.size (fun k => k = O16 ∨ k = O20) w34 w34 := RK.refl _ _ _
          refine icw_seq ?_
          refine icw_plain ?_
          refine ipl_take (.int .i64 ((stpN (Mem.evL l) i).1 : Int)) rfl (by kernel_rfl) (by kernel_rfl) (by kernel_rfl) (by kernel_rfl) ?_
          refine ipl_nil ?_
          refine iqw_then ?_
          refine icw_plain ?_
          refine ipl_take (.int .i64 ((stpN (Mem.evL l) i).2 : Int)) rfl (by kernel_rfl) (by kernel_rfl) (by kernel_rfl) (by kernel_rfl) ?_
          refine ipl_nil ?_
          refine iqw_asg hrk38 (fun w40 hm39 => ?_)
          replace e0 := hm39.ext e0 (Nat.le_trans hs0 (Nat.le_trans hs3 (Nat.le_trans hs7 (Nat.le_trans hs11 (Nat.le_trans hs15 (Nat.le_trans hs18 (Nat.le_trans hs22 (Nat.le_trans hs25 (Nat.le_trans hs27 hs32)))))))))
          replace hE := hm39.ext hE (Nat.le_trans hs3 (Nat.le_trans hs7 (Nat.le_trans hs11 (Nat.le_trans hs15 (Nat.le_trans hs18 (Nat.le_trans hs22 (Nat.le_trans hs25 (Nat.le_trans hs27 hs32))))))))
          replace bO1_0 := hm39.box bO1_0
          replace bO1_1 := hm39.box bO1_1
          replace hc30 := hm39.cell hc30
          replace b9 := hm39.box b9
          replace b8 := hm39.box b8
          have hs41 := hm39.size
          have hrk42 : RK w31.heap.size (fun k => k = O16 ∨ k = O20) w40 w40 := RK.refl _ _ _
          refine icw_block ?_
          refine icw_seq ?_
          refine icw_seq ?_
          refine icw_plain ?_
          refine ipl_take (.int .i64 ((stpN (Mem.evL l) i).1 : Int)) rfl (by kernel_rfl) (by kernel_rfl) (by kernel_rfl) (by kernel_rfl) ?_
          refine ipl_take (.pointer (some ⟨O1, 1, none⟩)) rfl (by kernel_rfl) (by kernel_rfl) (by kernel_rfl) (by kernel_rfl) ?_
          refine ipl_take (.int .i64 (t : Int)) rfl (by kernel_rfl) (by kernel_rfl) (by kernel_rfl) (ex_load rfl (by kernel_rfl) (ld3 (bO1_1.1))) ?_
          by_cases hc43 : ((stpN (Mem.evL l) i).1 : Int) ≥ (t : Int)
          ·
            refine ipl_take (.bool true) rfl (by kernel_rfl) (by kernel_rfl) (by kernel_rfl) (ev_dec (show _ = Result.ok (Next.value (Value.bool (decide (((stpN (Mem.evL l) i).1 : Int) ≥ (t : Int))))) _ from by kernel_rfl) (hc43)) ?_
            refine ipl_nil ?_
            refine iqw_then ?_
            refine icw_t (by kernel_rfl) ?_
            refine icw_exit ?_
            refine iqw_then_exit ?_
            refine iqw_block_on (by decide) ?_
            exact iqw_brk hrk42 ⟨rfl, (Nat.le_trans hs35 hs41), e0, hE, bO1_0, bO1_1, hc30, b9, b8, hle, (fun q hq => by rw [hG] at hq; cases hq; omega)⟩
          ·
            refine ipl_take (.bool false) rfl (by kernel_rfl) (by kernel_rfl) (by kernel_rfl) (ev_ndec (show _ = Result.ok (Next.value (Value.bool (decide (((stpN (Mem.evL l) i).1 : Int) ≥ (t : Int))))) _ from by kernel_rfl) (hc43)) ?_
            refine ipl_nil ?_
            refine iqw_then ?_
            refine icw_f (by kernel_rfl) ?_
            refine icw_skip ?_
            refine iqw_then ?_
            refine icw_seq ?_
            refine icw_seq ?_
            refine icw_plain ?_
            refine ipl_take (.int .i64 ((stpN (Mem.evL l) i).1 : Int)) rfl (by kernel_rfl) (by kernel_rfl) (by kernel_rfl) (by kernel_rfl) ?_
            refine ipl_take (.pointer (some ⟨O1, 0, none⟩)) rfl (by kernel_rfl) (by kernel_rfl) (by kernel_rfl) (by kernel_rfl) ?_
            refine ipl_take (.int .i64 (f : Int)) rfl (by kernel_rfl) (by kernel_rfl) (by kernel_rfl) (ex_load rfl (by kernel_rfl) (ld3 (bO1_0.1))) ?_
            by_cases hc44 : ((stpN (Mem.evL l) i).1 : Int) > (f : Int)
            ·
              have hmn := Mem.room_next (f := f) hil; rw [if_pos (show f < (stpN (Mem.evL l) i).1 by omega)] at hmn
              refine ipl_take (.bool true) rfl (by kernel_rfl) (by kernel_rfl) (by kernel_rfl) (ev_dec (show _ = Result.ok (Next.value (Value.bool (decide (((stpN (Mem.evL l) i).1 : Int) > (f : Int))))) _ from by kernel_rfl) (hc44)) ?_
              refine ipl_nil ?_
              refine iqw_then ?_
              refine icw_clean [8, 9, 11, 36] (ws' := [(8, .pointer (some ⟨O16, 0, none⟩)), (9, .pointer (some ⟨O20, 0, none⟩)), (11, .int .i64 ((stpN (Mem.evL l) i).2 : Int)), (36, .bool true)]) (by kernel_rfl) (fun L => ?_)
              refine icw_t (by kernel_rfl) ?_
              refine icw_plain ?_
              refine ipl_take (.int .i64 ((((Mem.evL l).take i).foldl (Mem.roomStep f) (0, 0)).1 : Int)) rfl (by kernel_rfl) (by kernel_rfl) (by kernel_rfl) (ex_load rfl (by kernel_rfl) (ld3 (b9.1))) ?_
              refine ipl_take (.int .i64 ((((Mem.evL l).take i).foldl (Mem.roomStep f) (0, 0)).2 : Int)) rfl (by kernel_rfl) (by kernel_rfl) (by kernel_rfl) (ex_load rfl (by kernel_rfl) (ld3 (b8.1))) ?_
              refine ipl_take (.int .i64 (max ((((Mem.evL l).take i).foldl (Mem.roomStep f) (0, 0)).1 : Int) ((((Mem.evL l).take i).foldl (Mem.roomStep f) (0, 0)).2 : Int) : Int)) rfl (by kernel_rfl) (by kernel_rfl) (by kernel_rfl) (ev_int (show _ = Result.ok (Next.value (Value.int .i64 (if ((((Mem.evL l).take i).foldl (Mem.roomStep f) (0, 0)).1 : Int) < ((((Mem.evL l).take i).foldl (Mem.roomStep f) (0, 0)).2 : Int) then ((((Mem.evL l).take i).foldl (Mem.roomStep f) (0, 0)).2 : Int) else ((((Mem.evL l).take i).foldl (Mem.roomStep f) (0, 0)).1 : Int)))) _ from by kernel_rfl) (by split <;> omega)) ?_
              refine ipl_put rfl (by kernel_rfl) (by kernel_rfl) (sn_set (O := O16) (j := 0) (v := .int .i64 (max ((((Mem.evL l).take i).foldl (Mem.roomStep f) (0, 0)).1 : Int) ((((Mem.evL l).take i).foldl (Mem.roomStep f) (0, 0)).2 : Int) : Int)) (ex_store (p := .pointer (some ⟨O16, 0, none⟩)) (v := .int .i64 (max ((((Mem.evL l).take i).foldl (Mem.roomStep f) (0, 0)).1 : Int) ((((Mem.evL l).take i).foldl (Mem.roomStep f) (0, 0)).2 : Int) : Int)) rfl (by kernel_rfl) (by kernel_rfl) (st3 b9.1 b9.2)) b9 ?_)
              intro X45 ho hv0 hk
              replace e0 := ho.ext e0 (Nat.le_trans (Nat.le_trans hs0 (Nat.le_trans hs3 (Nat.le_trans hs7 (Nat.le_trans hs11 hs15)))) (Nat.le_of_eq hzO16))
              replace hE := ho.ext hE (Nat.le_trans (Nat.le_trans hs3 (Nat.le_trans hs7 (Nat.le_trans hs11 hs15))) (Nat.le_of_eq hzO16))
              replace bO1_0 := ho.box (Nat.ne_of_gt (Nat.lt_of_lt_of_le lt4 (Nat.le_trans (Nat.le_trans hs7 (Nat.le_trans hs11 hs15)) (Nat.le_of_eq hzO16)))) bO1_0
              replace bO1_1 := ho.box (Nat.ne_of_gt (Nat.lt_of_lt_of_le lt4 (Nat.le_trans (Nat.le_trans hs7 (Nat.le_trans hs11 hs15)) (Nat.le_of_eq hzO16)))) bO1_1
              replace hc30 := ho.cell (Nat.ne_of_lt (Nat.lt_of_lt_of_le lt19 (Nat.le_trans (Nat.le_trans hs22 (Nat.le_trans hs25 hs27)) hn29))) hc30
              replace b8 := ho.box (Nat.ne_of_lt (Nat.lt_of_lt_of_le lt19 (Nat.le_of_eq hzO20))) b8
              replace hrk42 := hrk42.turn ho (.inl ((.inl rfl)))
              have hs46 : w40.heap.size ≤ X45.heap.size := Nat.le_of_eq ho.size.symm
              clear ho hk b9
              have b9 := hv0; clear hv0
              refine ipl_nil ?_
              refine iqw_then ?_
              refine icw_plain ?_
              refine ipl_take (.int .i64 ((stpN (Mem.evL l) i).2 : Int)) rfl (by kernel_rfl) (by kernel_rfl) (by kernel_rfl) (by kernel_rfl) ?_
              refine ipl_put rfl (by kernel_rfl) (by kernel_rfl) (sn_set (O := O20) (j := 0) (v := .int .i64 ((stpN (Mem.evL l) i).2 : Int)) (ex_store (p := .pointer (some ⟨O20, 0, none⟩)) (v := .int .i64 ((stpN (Mem.evL l) i).2 : Int)) rfl (by kernel_rfl) (by kernel_rfl) (st3 b8.1 b8.2)) b8 ?_)
              intro X47 ho hv0 hk
              replace e0 := ho.ext e0 (Nat.le_trans (Nat.le_trans hs0 (Nat.le_trans hs3 (Nat.le_trans hs7 (Nat.le_trans hs11 (Nat.le_trans hs15 hs18))))) (Nat.le_of_eq hzO20))
              replace hE := ho.ext hE (Nat.le_trans (Nat.le_trans hs3 (Nat.le_trans hs7 (Nat.le_trans hs11 (Nat.le_trans hs15 hs18)))) (Nat.le_of_eq hzO20))
              replace bO1_0 := ho.box (Nat.ne_of_gt (Nat.lt_of_lt_of_le lt4 (Nat.le_trans (Nat.le_trans hs7 (Nat.le_trans hs11 (Nat.le_trans hs15 hs18))) (Nat.le_of_eq hzO20)))) bO1_0
              replace bO1_1 := ho.box (Nat.ne_of_gt (Nat.lt_of_lt_of_le lt4 (Nat.le_trans (Nat.le_trans hs7 (Nat.le_trans hs11 (Nat.le_trans hs15 hs18))) (Nat.le_of_eq hzO20)))) bO1_1
              replace hc30 := ho.cell (Nat.ne_of_lt (Nat.lt_of_lt_of_le lt23 (Nat.le_trans (Nat.le_trans hs25 hs27) hn29))) hc30
              replace hrk42 := hrk42.turn ho (.inl ((.inr rfl)))
              replace b9 := ho.box (Nat.ne_of_gt (Nat.lt_of_lt_of_le lt19 (Nat.le_of_eq hzO20))) b9
              have hs48 : X45.heap.size ≤ X47.heap.size := Nat.le_of_eq ho.size.symm
              clear ho hk b8
              have b8 := hv0; clear hv0
              refine ipl_nil ?_
              refine iqw_block ?_
              exact iqw_next hrk42 ⟨(Nat.le_trans hs35 (Nat.le_trans hs41 (Nat.le_trans hs46 hs48))), e0, hE, bO1_0, bO1_1, hc30, (by rw [hmn]; exact b9), (by rw [hmn]; exact b8), (Mem.le_next (P := fun q => q.1 < t) hle hil (by omega))⟩
            ·
              have hmn := Mem.room_next (f := f) hil; rw [if_neg (show ¬ f < (stpN (Mem.evL l) i).1 by omega)] at hmn
              refine ipl_take (.bool false) rfl (by kernel_rfl) (by kernel_rfl) (by kernel_rfl) (ev_ndec (show _ = Result.ok (Next.value (Value.bool (decide (((stpN (Mem.evL l) i).1 : Int) > (f : Int))))) _ from by kernel_rfl) (hc44)) ?_
              refine ipl_nil ?_
              refine iqw_then ?_
              refine icw_clean [8, 9, 11, 36] (ws' := [(8, .pointer (some ⟨O16, 0, none⟩)), (9, .pointer (some ⟨O20, 0, none⟩)), (11, .int .i64 ((stpN (Mem.evL l) i).2 : Int)), (36, .bool false)]) (by kernel_rfl) (fun L => ?_)
              refine icw_f (by kernel_rfl) ?_
              refine icw_skip ?_
              refine iqw_then ?_
              refine icw_plain ?_
              refine ipl_take (.int .i64 ((stpN (Mem.evL l) i).2 : Int)) rfl (by kernel_rfl) (by kernel_rfl) (by kernel_rfl) (by kernel_rfl) ?_
              refine ipl_put rfl (by kernel_rfl) (by kernel_rfl) (sn_set (O := O20) (j := 0) (v := .int .i64 ((stpN (Mem.evL l) i).2 : Int)) (ex_store (p := .pointer (some ⟨O20, 0, none⟩)) (v := .int .i64 ((stpN (Mem.evL l) i).2 : Int)) rfl (by kernel_rfl) (by kernel_rfl) (st3 b8.1 b8.2)) b8 ?_)
              intro X49 ho hv0 hk
              replace e0 := ho.ext e0 (Nat.le_trans (Nat.le_trans hs0 (Nat.le_trans hs3 (Nat.le_trans hs7 (Nat.le_trans hs11 (Nat.le_trans hs15 hs18))))) (Nat.le_of_eq hzO20))
              replace hE := ho.ext hE (Nat.le_trans (Nat.le_trans hs3 (Nat.le_trans hs7 (Nat.le_trans hs11 (Nat.le_trans hs15 hs18)))) (Nat.le_of_eq hzO20))
              replace bO1_0 := ho.box (Nat.ne_of_gt (Nat.lt_of_lt_of_le lt4 (Nat.le_trans (Nat.le_trans hs7 (Nat.le_trans hs11 (Nat.le_trans hs15 hs18))) (Nat.le_of_eq hzO20)))) bO1_0
              replace bO1_1 := ho.box (Nat.ne_of_gt (Nat.lt_of_lt_of_le lt4 (Nat.le_trans (Nat.le_trans hs7 (Nat.le_trans hs11 (Nat.le_trans hs15 hs18))) (Nat.le_of_eq hzO20)))) bO1_1
              replace hc30 := ho.cell (Nat.ne_of_lt (Nat.lt_of_lt_of_le lt23 (Nat.le_trans (Nat.le_trans hs25 hs27) hn29))) hc30
              replace b9 := ho.box (Nat.ne_of_gt (Nat.lt_of_lt_of_le lt19 (Nat.le_of_eq hzO20))) b9
              replace hrk42 := hrk42.turn ho (.inl ((.inr rfl)))
              have hs50 : w40.heap.size ≤ X49.heap.size := Nat.le_of_eq ho.size.symm
              clear ho hk b8
              have b8 := hv0; clear hv0
              refine ipl_nil ?_
              refine iqw_block ?_
              exact iqw_next hrk42 ⟨(Nat.le_trans hs35 (Nat.le_trans hs41 hs50)), e0, hE, bO1_0, bO1_1, hc30, (by rw [hmn]; exact b9), (by rw [hmn]; exact b8), (Mem.le_next (P := fun q => q.1 < t) hle hil (by omega))⟩
        ·
          clear bO1_0 bO1_1 bO16_0 bO20_0 hc30 e0 hE
          intro D51 w52 hD55 hDl56 h hmk54
          obtain ⟨hs53, e0, hE, bO1_0, bO1_1, hc30, b9, b8, hle⟩ := h
          have hT9 := Mem.room_is (k := (Mem.chg l).length) (Mem.okL_u hok9) (Mem.evL_fills l) (show f < t by omega) (by rw [Mem.evL_len]; exact Nat.le_refl _) hle (fun q hq => by rw [← Mem.evL_len, List.getElem?_eq_none (Nat.le_refl _)] at hq; cases hq)
          have hv9 := hT9.uniq (Mem.topR_is (Mem.okL_u hok9) (show f < t by omega))
          obtain ⟨⟨t9, _, _, ht9⟩, _⟩ := hT9
          have hbd9 := Mem.fill_bd hok9 t9; rw [ht9] at hbd9
          obtain ⟨m9, hm9⟩ : ∃ m9, m9 = (((Mem.evL l).take (Mem.chg l).length).foldl (Mem.roomStep f) (0, 0)).1 := ⟨_, rfl⟩
          obtain ⟨n9, hn9⟩ : ∃ n9, n9 = (((Mem.evL l).take (Mem.chg l).length).foldl (Mem.roomStep f) (0, 0)).2 := ⟨_, rfl⟩
          rw [← hm9, ← hn9] at hv9 hbd9
          rw [← hm9] at b9; rw [← hn9] at b8
          refine iqw_block ?_
          refine iqw_then ?_
          refine icw_seq ?_
          refine icw_plain ?_
          refine ipl_take (.int .i64 (st : Int)) rfl (by kernel_rfl) (by kernel_rfl) (by kernel_rfl) (by kernel_rfl) ?_
          refine ipl_take (.int .i64 (m9 : Int)) rfl (by kernel_rfl) (by kernel_rfl) (by kernel_rfl) (ex_load rfl (by kernel_rfl) (ld3 (b9.1))) ?_
          refine ipl_take (.int .i64 (n9 : Int)) rfl (by kernel_rfl) (by kernel_rfl) (by kernel_rfl) (ex_load rfl (by kernel_rfl) (ld3 (b8.1))) ?_
          refine ipl_take (.int .i64 (max (m9 : Int) (n9 : Int) : Int)) rfl (by kernel_rfl) (by kernel_rfl) (by kernel_rfl) (ev_int (show _ = Result.ok (Next.value (Value.int .i64 (if (m9 : Int) < (n9 : Int) then (n9 : Int) else (m9 : Int)))) _ from by kernel_rfl) (by split <;> omega)) ?_
          refine ipl_take (.int .i64 (st - (max (m9 : Int) (n9 : Int)) : Int)) rfl (by kernel_rfl) (by kernel_rfl) (by kernel_rfl) (ev_wrap (by kernel_rfl) (by omega) (by omega)) ?_
          refine ipl_take (.int .i64 (max (0 : Int) (st - (max (m9 : Int) (n9 : Int)) : Int) : Int)) rfl (by kernel_rfl) (by kernel_rfl) (by kernel_rfl) (ev_int (show _ = Result.ok (Next.value (Value.int .i64 (if (0 : Int) < (st - (max (m9 : Int) (n9 : Int)) : Int) then (st - (max (m9 : Int) (n9 : Int)) : Int) else (0 : Int)))) _ from by kernel_rfl) (by split <;> omega)) ?_
          refine ipl_take (.int .i64 (max (0 : Int) (st - (max (m9 : Int) (n9 : Int)) : Int) : Int)) rfl (by kernel_rfl) (by kernel_rfl) (by kernel_rfl) (by kernel_rfl) ?_
          refine ipl_take (.int .i64 0) rfl (by kernel_rfl) (by kernel_rfl) (by kernel_rfl) (by kernel_rfl) ?_
          refine ipl_nil ?_
          refine iqw_then ?_
          refine icw_clean [6, 7] (ws' := [(6, .int .i64 (max (0 : Int) (st - (max (m9 : Int) (n9 : Int)) : Int) : Int)), (7, .int .i64 0)]) (by kernel_rfl) (fun L => ?_)
          refine icw_ret ?_
          refine iqw_ret w.heap.size [.int .i64 (max (0 : Int) (st - (max (m9 : Int) (n9 : Int)) : Int) : Int), .int .i64 0] rfl (marksC (Nat.le_trans (Nat.le_trans hs3 (Nat.le_trans hs7 (Nat.le_trans hs11 (Nat.le_trans hs15 (Nat.le_trans hs18 (Nat.le_trans hs22 (Nat.le_trans hs25 (Nat.le_trans hs27 hs32)))))))) hD55) hmk54 (fun _ h => by cases h)) (by simp) (fun W9 hm9 => ?_)
          replace e0 := hm9.ext e0 hs0
          replace hE := hm9.ext hE (Nat.le_refl _)
          replace bO1_0 := hm9.box bO1_0
          replace bO1_1 := hm9.box bO1_1
          replace hc30 := hm9.cell hc30
          replace b9 := hm9.box b9
          replace b8 := hm9.box b8
          have hs57 := hm9.size
          refine ⟨⟨(by kernel_rfl), (by kernel_rfl), trivial⟩, ?_⟩
          have hB : (Mem.okL l && Globe.inB st 0 1000000 && Mem.spB (f, t)) = true := by rw [hb5, hb8, hb12]; rfl
          rw [hB, Mem.ansV_t, ← hv9]; exact ⟨rfl, hE⟩
        ·
          clear bO1_0 bO1_1 bO16_0 bO20_0 hc30 e0 hE
          intro cd9 D58 i w59 hD62 hDl63 hii h hmk61
          obtain ⟨rfl, hs60, e0, hE, bO1_0, bO1_1, hc30, b9, b8, hle, hgt⟩ := h
          have hT9 := Mem.room_is (k := i) (Mem.okL_u hok9) (Mem.evL_fills l) (show f < t by omega) (by rw [Mem.evL_len]; omega) hle hgt
          have hv9 := hT9.uniq (Mem.topR_is (Mem.okL_u hok9) (show f < t by omega))
          obtain ⟨⟨t9, _, _, ht9⟩, _⟩ := hT9
          have hbd9 := Mem.fill_bd hok9 t9; rw [ht9] at hbd9
          obtain ⟨m9, hm9⟩ : ∃ m9, m9 = (((Mem.evL l).take i).foldl (Mem.roomStep f) (0, 0)).1 := ⟨_, rfl⟩
          obtain ⟨n9, hn9⟩ : ∃ n9, n9 = (((Mem.evL l).take i).foldl (Mem.roomStep f) (0, 0)).2 := ⟨_, rfl⟩
          rw [← hm9, ← hn9] at hv9 hbd9
          rw [← hm9] at b9; rw [← hn9] at b8
          refine icw_exit ?_
          refine iqw_block_out ?_
          refine iqw_then ?_
          refine icw_seq ?_
          refine icw_plain ?_
          refine ipl_take (.int .i64 (st : Int)) rfl (by kernel_rfl) (by kernel_rfl) (by kernel_rfl) (by kernel_rfl) ?_
          refine ipl_take (.int .i64 (m9 : Int)) rfl (by kernel_rfl) (by kernel_rfl) (by kernel_rfl) (ex_load rfl (by kernel_rfl) (ld3 (b9.1))) ?_
          refine ipl_take (.int .i64 (n9 : Int)) rfl (by kernel_rfl) (by kernel_rfl) (by kernel_rfl) (ex_load rfl (by kernel_rfl) (ld3 (b8.1))) ?_
          refine ipl_take (.int .i64 (max (m9 : Int) (n9 : Int) : Int)) rfl (by kernel_rfl) (by kernel_rfl) (by kernel_rfl) (ev_int (show _ = Result.ok (Next.value (Value.int .i64 (if (m9 : Int) < (n9 : Int) then (n9 : Int) else (m9 : Int)))) _ from by kernel_rfl) (by split <;> omega)) ?_
          refine ipl_take (.int .i64 (st - (max (m9 : Int) (n9 : Int)) : Int)) rfl (by kernel_rfl) (by kernel_rfl) (by kernel_rfl) (ev_wrap (by kernel_rfl) (by omega) (by omega)) ?_
          refine ipl_take (.int .i64 (max (0 : Int) (st - (max (m9 : Int) (n9 : Int)) : Int) : Int)) rfl (by kernel_rfl) (by kernel_rfl) (by kernel_rfl) (ev_int (show _ = Result.ok (Next.value (Value.int .i64 (if (0 : Int) < (st - (max (m9 : Int) (n9 : Int)) : Int) then (st - (max (m9 : Int) (n9 : Int)) : Int) else (0 : Int)))) _ from by kernel_rfl) (by split <;> omega)) ?_
          refine ipl_take (.int .i64 (max (0 : Int) (st - (max (m9 : Int) (n9 : Int)) : Int) : Int)) rfl (by kernel_rfl) (by kernel_rfl) (by kernel_rfl) (by kernel_rfl) ?_
          refine ipl_take (.int .i64 0) rfl (by kernel_rfl) (by kernel_rfl) (by kernel_rfl) (by kernel_rfl) ?_
          refine ipl_nil ?_
          refine iqw_then ?_
          refine icw_clean [6, 7] (ws' := [(6, .int .i64 (max (0 : Int) (st - (max (m9 : Int) (n9 : Int)) : Int) : Int)), (7, .int .i64 0)]) (by kernel_rfl) (fun L => ?_)
          refine icw_ret ?_
          refine iqw_ret w.heap.size [.int .i64 (max (0 : Int) (st - (max (m9 : Int) (n9 : Int)) : Int) : Int), .int .i64 0] rfl (marksC (Nat.le_trans (Nat.le_trans hs3 (Nat.le_trans hs7 (Nat.le_trans hs11 (Nat.le_trans hs15 (Nat.le_trans hs18 (Nat.le_trans hs22 (Nat.le_trans hs25 (Nat.le_trans hs27 hs32)))))))) hD62) hmk61 (fun _ h => by cases h)) (by simp) (fun W9 hm9 => ?_)
          replace e0 := hm9.ext e0 hs0
          replace hE := hm9.ext hE (Nat.le_refl _)
          replace bO1_0 := hm9.box bO1_0
          replace bO1_1 := hm9.box bO1_1
          replace hc30 := hm9.cell hc30
          replace b9 := hm9.box b9
          replace b8 := hm9.box b8
          have hs64 := hm9.size
          refine ⟨⟨(by kernel_rfl), (by kernel_rfl), trivial⟩, ?_⟩
          have hB : (Mem.okL l && Globe.inB st 0 1000000 && Mem.spB (f, t)) = true := by rw [hb5, hb8, hb12]; rfl
          rw [hB, Mem.ansV_t, ← hv9]; exact ⟨rfl, hE⟩
      ·
        refine ipl_step rfl (by kernel_rfl) (by kernel_rfl) (by kernel_rfl) (sn_call (f := 47) (args := #[.agg #[.int .i64 (f : Int), .int .i64 (t : Int)]]) (by kernel_rfl) ((isSpell_r (r := false) f t _ (hb12)).mono ?_))
        rintro e w65 ⟨rfl, hb⟩
        replace e0 := e0.trans hb
        replace hE := hE.trans hb
        replace bO1_0 := BoxAt.ext hb bO1_0
        replace bO1_1 := BoxAt.ext hb bO1_1
        have hs66 := hb.size
        clear hb
        refine ⟨_, rfl, ?_⟩
        refine ipl_take (.bool true) rfl (by kernel_rfl) (by kernel_rfl) (by kernel_rfl) (by kernel_rfl) ?_
        refine ipl_take (.bool true) rfl (by kernel_rfl) (by kernel_rfl) (by kernel_rfl) (by kernel_rfl) ?_
        refine ipl_nil ?_
        refine iqw_then ?_
        refine icw_clean [0, 1, 5, 24] (ws' := [(0, .slice a n c), (1, .int .i64 (st : Int)), (5, .pointer (some ⟨O1, 0, none⟩)), (24, .bool true)]) (by kernel_rfl) (fun L => ?_)
        refine icw_t (by kernel_rfl) ?_
        refine icw_seq ?_
        refine icw_plain ?_
        refine ipl_take (.int .i64 0) rfl (by kernel_rfl) (by kernel_rfl) (by kernel_rfl) (by kernel_rfl) ?_
        refine ipl_take (.int .i64 110) rfl (by kernel_rfl) (by kernel_rfl) (by kernel_rfl) (by kernel_rfl) ?_
        refine ipl_nil ?_
        refine iqw_then ?_
        refine icw_ret ?_
        refine iqw_then_ret ?_
        refine iqw_ret0 [.int .i64 0, .int .i64 110] rfl ⟨(by kernel_rfl), (by kernel_rfl), trivial⟩ ?_
        have hB : (Mem.okL l && Globe.inB st 0 1000000 && Mem.spB (f, t)) = false := by rw [hb12]; simp
        rw [hB]; exact ⟨rfl, hE⟩
    ·
      refine ipl_step rfl (by kernel_rfl) (by kernel_rfl) (by kernel_rfl) (sn_call (f := 46) (args := #[.int .i64 (st : Int), .int .i64 0, .int .i64 1000000]) (by kernel_rfl) ((memory_isIn_r (r := false) st 0 1000000 _ (hb8)).mono ?_))
      rintro e w67 ⟨rfl, hb⟩
      replace e0 := e0.trans hb
      replace hE := hE.trans hb
      replace bO1_0 := BoxAt.ext hb bO1_0
      replace bO1_1 := BoxAt.ext hb bO1_1
      have hs68 := hb.size
      clear hb
      refine ⟨_, rfl, ?_⟩
      refine ipl_take (.bool true) rfl (by kernel_rfl) (by kernel_rfl) (by kernel_rfl) (by kernel_rfl) ?_
      refine ipl_take (.bool true) rfl (by kernel_rfl) (by kernel_rfl) (by kernel_rfl) (by kernel_rfl) ?_
      refine ipl_take (.bool true) rfl (by kernel_rfl) (by kernel_rfl) (by kernel_rfl) (by kernel_rfl) ?_
      refine ipl_skip rfl (by kernel_rfl) (by kernel_rfl) (by kernel_rfl) ?_
      refine ipl_skip rfl (by kernel_rfl) (by kernel_rfl) (by kernel_rfl) ?_
      refine ipl_skip rfl (by kernel_rfl) (by kernel_rfl) (by kernel_rfl) ?_
      refine ipl_take (.bool true) rfl (by kernel_rfl) (by kernel_rfl) (by kernel_rfl) (by kernel_rfl) ?_
      refine ipl_nil ?_
      refine iqw_then ?_
      refine icw_clean [0, 1, 5, 24] (ws' := [(0, .slice a n c), (1, .int .i64 (st : Int)), (5, .pointer (some ⟨O1, 0, none⟩)), (24, .bool true)]) (by kernel_rfl) (fun L => ?_)
      refine icw_t (by kernel_rfl) ?_
      refine icw_seq ?_
      refine icw_plain ?_
      refine ipl_take (.int .i64 0) rfl (by kernel_rfl) (by kernel_rfl) (by kernel_rfl) (by kernel_rfl) ?_
      refine ipl_take (.int .i64 110) rfl (by kernel_rfl) (by kernel_rfl) (by kernel_rfl) (by kernel_rfl) ?_
      refine ipl_nil ?_
      refine iqw_then ?_
      refine icw_ret ?_
      refine iqw_then_ret ?_
      refine iqw_ret0 [.int .i64 0, .int .i64 110] rfl ⟨(by kernel_rfl), (by kernel_rfl), trivial⟩ ?_
      have hB : (Mem.okL l && Globe.inB st 0 1000000 && Mem.spB (f, t)) = false := by rw [hb8]; simp
      rw [hB]; exact ⟨rfl, hE⟩
  ·
    refine ipl_step rfl (by kernel_rfl) (by kernel_rfl) (by kernel_rfl) (sn_call (f := 18) (args := #[.slice a n c]) (by kernel_rfl) ((Valid_r (l := l) (r := false) _ _ h e0 hb5).mono ?_))
    rintro e w69 ⟨rfl, hb⟩
    replace e0 := e0.trans hb
    replace hE := hE.trans hb
    replace bO1_0 := BoxAt.ext hb bO1_0
    replace bO1_1 := BoxAt.ext hb bO1_1
    have hs70 := hb.size
    clear hb
    refine ⟨_, rfl, ?_⟩
    refine ipl_take (.bool true) rfl (by kernel_rfl) (by kernel_rfl) (by kernel_rfl) (by kernel_rfl) ?_
    refine ipl_take (.bool true) rfl (by kernel_rfl) (by kernel_rfl) (by kernel_rfl) (by kernel_rfl) ?_
    refine ipl_skip rfl (by kernel_rfl) (by kernel_rfl) (by kernel_rfl) ?_
    refine ipl_skip rfl (by kernel_rfl) (by kernel_rfl) (by kernel_rfl) ?_
    refine ipl_skip rfl (by kernel_rfl) (by kernel_rfl) (by kernel_rfl) ?_
    refine ipl_take (.bool true) rfl (by kernel_rfl) (by kernel_rfl) (by kernel_rfl) (by kernel_rfl) ?_
    refine ipl_take (.bool true) rfl (by kernel_rfl) (by kernel_rfl) (by kernel_rfl) (by kernel_rfl) ?_
    refine ipl_skip rfl (by kernel_rfl) (by kernel_rfl) (by kernel_rfl) ?_
    refine ipl_skip rfl (by kernel_rfl) (by kernel_rfl) (by kernel_rfl) ?_
    refine ipl_skip rfl (by kernel_rfl) (by kernel_rfl) (by kernel_rfl) ?_
    refine ipl_take (.bool true) rfl (by kernel_rfl) (by kernel_rfl) (by kernel_rfl) (by kernel_rfl) ?_
    refine ipl_nil ?_
    refine iqw_then ?_
    refine icw_clean [0, 1, 5, 24] (ws' := [(0, .slice a n c), (1, .int .i64 (st : Int)), (5, .pointer (some ⟨O1, 0, none⟩)), (24, .bool true)]) (by kernel_rfl) (fun L => ?_)
    refine icw_t (by kernel_rfl) ?_
    refine icw_seq ?_
    refine icw_plain ?_
    refine ipl_take (.int .i64 0) rfl (by kernel_rfl) (by kernel_rfl) (by kernel_rfl) (by kernel_rfl) ?_
    refine ipl_take (.int .i64 110) rfl (by kernel_rfl) (by kernel_rfl) (by kernel_rfl) (by kernel_rfl) ?_
    refine ipl_nil ?_
    refine iqw_then ?_
    refine icw_ret ?_
    refine iqw_then_ret ?_
    refine iqw_ret0 [.int .i64 0, .int .i64 110] rfl ⟨(by kernel_rfl), (by kernel_rfl), trivial⟩ ?_
    have hB : (Mem.okL l && Globe.inB st 0 1000000 && Mem.spB (f, t)) = false := by rw [hb5]; simp
    rw [hB]; exact ⟨rfl, hE⟩

end Go.Proofs.Ytnbjjddfcondlaa

/- Lists of ints, and lists of them, in memory; the library's sort, compaction, search and copy. -/
namespace Go.Proofs.Ytnbjjddfcondlaa
open Go.RowKit

/-! Lists of numbers. -/
def NatsAt (w : World) (b : Nat) (s : List Nat) : Prop := b < w.heap.size ∧ ∀ (k : Nat) v, s[k]? = some v → w.cell? ⟨b, k, none⟩ = some (.int .i64 (v : Int))
theorem NatsAt.ext {w w' : World} {b : Nat} {s : List Nat} (h : NatsAt w b s) (hE : Ext w w') : NatsAt w' b s := ⟨Nat.lt_of_lt_of_le h.1 hE.size, fun k v hv => hE.cell (h.2 k v hv)⟩
def natR : Rep Nat where
  rel _ c x F := c = [.int .i64 (x : Int)] ∧ F = []
  keep := fun h _ => h
  lt := by rintro w c x F ⟨_, rfl⟩ b hb; cases hb
def intR : Rep Int where
  rel _ c x F := c = [.int .i64 x] ∧ F = []
  keep := fun h _ => h
  lt := by rintro w c x F ⟨_, rfl⟩ b hb; cases hb
theorem intT : ElemT Try.prog 56 3 (.int .i64 0) 1 8 := ⟨Try.underlying56, by kernel_rfl, rfl, by decide⟩
theorem own_nats {n₀ e n cap : Nat} {a : Option Addr} {w : World} {l : List Nat} (h : OwnL natR n₀ e 1 (.slice a n cap) w l) (hl : l.length = n) (h0 : 0 < n) : ∃ b, a = some ⟨b, 0, none⟩ ∧ n₀ ≤ b ∧ NatsAt w b l := by
  subst hl
  have hb := h.base
  have hlt := h.lt
  obtain ⟨cs, h1, h2, h3, h4⟩ := h
  rcases h3.2 with ⟨q1, q2⟩ | ⟨g, cap', cur, q1, _⟩
  · injection q1 with r1 r2 r3; omega
  · injection q1 with r1 r2 r3
    subst r1
    refine ⟨g, rfl, hb g rfl, hlt g rfl, fun i x hx => ?_⟩
    have hi := (List.getElem?_eq_some_iff.1 hx).1
    have hc := List.getElem?_eq_getElem (l := cs) (i := i) (by omega)
    obtain ⟨F, ⟨e1, _⟩, _⟩ := h4 i _ _ hx hc
    have f := flatten_get h2 i hc 0 (by omega)
    rw [e1, Nat.mul_one, Nat.add_zero] at f
    have := own_cell9 h3 (j := i) (by omega) f
    rwa [Nat.zero_add] at this
/-- Ints that may be written, at the head of a block that is not older than m. -/
def IntsB (m : Nat) (w : World) (a : Option Addr) (n : Nat) (zs : List Int) : Prop := zs.length = n ∧ (n = 0 ∨ ∃ g, a = some ⟨g, 0, none⟩ ∧ m ≤ g ∧ ∀ (k : Nat) z, zs[k]? = some z → BoxAt w g k (.int .i64 z))
theorem IntsB.ext {m : Nat} {w w' : World} {a : Option Addr} {n : Nat} {zs : List Int} (h : IntsB m w a n zs) (hE : Ext w w') : IntsB m w' a n zs := ⟨h.1, h.2.imp id fun ⟨g, ha, hm, hx⟩ => ⟨g, ha, hm, fun k z hz => BoxAt.ext hE (hx k z hz)⟩⟩
theorem IntsB.holds {w : World} {g : Nat} {zs : List Int} (h : ∀ (k : Nat) z, zs[k]? = some z → BoxAt w g k (.int .i64 z)) : Go.Sort.Holds (Value.int .i64) w g 0 zs.toArray := by
  intro j hj
  have hj' : j < zs.length := by simpa using hj
  have := h j _ (List.getElem?_eq_getElem hj')
  rw [Nat.zero_add]
  refine ⟨?_, this.2⟩
  rw [this.1]; simp [hj']
theorem holds_ints {w : World} {g : Nat} {zs : List Int} (h : Go.Sort.Holds (Value.int .i64) w g 0 zs.toArray) : ∀ (k : Nat) z, zs[k]? = some z → BoxAt w g k (.int .i64 z) := fun k z hz => by
  obtain ⟨hk, rfl⟩ := List.getElem?_eq_some_iff.1 hz
  have := h k (by simpa using hk)
  rw [Nat.zero_add] at this
  refine ⟨?_, this.2⟩
  rw [this.1]; simp [hk]
theorem OwnL.cap {α : Type} {R : Rep α} {n₀ e size n cap : Nat} {a : Option Addr} {w : World} {l : List α} (h : OwnL R n₀ e size (.slice a n cap) w l) (hl : l.length = n) : n ≤ cap := by
  subst hl
  obtain ⟨cs, h1, h2, h3, h4⟩ := h
  rcases h3.2 with ⟨q, q2⟩ | ⟨g, cap', cur, q, _, _, q3, _⟩
  · injection q with r1 r2 r3; omega
  · injection q with r1 r2 r3; omega
theorem own_ints {n₀ e g n cap : Nat} {w : World} {zs : List Int} (h : OwnL intR n₀ e 1 (.slice (some ⟨g, 0, none⟩) n cap) w zs) (hl : zs.length = n) : ∀ (k : Nat) z, zs[k]? = some z → BoxAt w g k (.int .i64 z) := by
  subst hl
  obtain ⟨cs, h1, h2, h3, h4⟩ := h
  intro i x hx
  have hi := (List.getElem?_eq_some_iff.1 hx).1
  have hc := List.getElem?_eq_getElem (l := cs) (i := i) (by omega)
  obtain ⟨F, ⟨e1, _⟩, _⟩ := h4 i _ _ hx hc
  have f := flatten_get h2 i hc 0 (by omega)
  rw [e1, Nat.mul_one, Nat.add_zero] at f
  have := own_cell9 h3 (j := i) (by omega) f
  rw [Nat.zero_add] at this
  exact ⟨this, h3.frozenAt _⟩
def IntsPost (m : Nat) (w : World) (a : Option Addr) (n : Nat) (zs : List Int) (w' : World) : Prop := IntsB m w' a n zs ∧ (∀ U, Ext U w → U.heap.size ≤ m → Ext U w') ∧ w.heap.size ≤ w'.heap.size
theorem SortI_c {n₀ e : Nat} {a : Option Addr} {n cap : Nat} {zs : List Int} (w : World) (h : OwnL intR n₀ e 1 (.slice a n cap) w zs) (hl : zs.length = n) (hn : n ≤ 1000000) :
    Calls Try.prog 36 #[.slice a n cap] w fun e w' => e = .returned (.tuple #[]) ∧ ∃ zs', zs'.Perm zs ∧ zs'.Pairwise (· ≤ ·) ∧ IntsPost n₀ w a n zs' w' := by
  have hb := h.base
  subst hl
  by_cases h0 : zs.length = 0
  · obtain rfl := List.eq_nil_of_length_eq_zero h0
    refine (Go.Proofs.Any.slices_Sort_int_none Try.sortIn a cap w).mono fun e w' ⟨he, hw⟩ => ⟨he, [], .refl _, List.Pairwise.nil, ⟨rfl, .inl rfl⟩, fun U hU _ => hw ▸ hU, by rw [hw]; exact Nat.le_refl _⟩
  · have hg : ∃ g, a = some ⟨g, 0, none⟩ := by
      obtain ⟨cs, k1, k2, k3, k4⟩ := h
      rcases k3.2 with ⟨q, _⟩ | ⟨g, cap', cur, q, _⟩
      · injection q with r1 r2 r3; omega
      · injection q with r1; exact ⟨g, r1⟩
    obtain ⟨g, rfl⟩ := hg
    have hbx := own_ints h rfl
    have hlt := h.lt g rfl
    refine (Go.Proofs.Any.slices_Sort_int Try.sortIn g 0 cap zs w (IntsB.holds hbx) hlt (by omega)).mono fun e w' ⟨he, q, os, hw⟩ => ⟨he, zs.mergeSort fun x y => decide (x ≤ y), List.mergeSort_perm zs _, ?_, ⟨by rw [List.length_mergeSort], .inr ⟨g, rfl, hb g rfl, ?_⟩⟩, ?_, ?_⟩
    · have := List.pairwise_mergeSort (le := fun x y : Int => decide (x ≤ y)) (fun a b c h1 h2 => by simp at *; omega) (fun a b => by simp; omega) zs
      exact this.imp fun h => by simpa using h
    · rw [hw]
      refine holds_ints (Go.Sort.holds_grow (Value.int .i64) _ _ _ _ _ ?_ ?_)
      · rw [Go.Sort.size_putRow]; exact hlt
      · exact Go.Sort.holds_putRow _ _ _ _ zs.toArray _ (Go.Sort.holds_ahead _ _ _ _ _ _ (IntsB.holds hbx)) (by simp)
    · intro U hU hUn
      rw [hw]
      exact grow_ext (putRow_ext9 _ hU (Nat.le_trans hUn (hb g rfl)) _) _
    · rw [hw, Go.Sort.size_grow, Go.Sort.size_putRow]; exact Nat.le_add_right _ _
theorem CompactI_c {m : Nat} {a : Option Addr} {n cap : Nat} {zs bs : List Int} (w : World) (h : IntsB m w a n zs) (hcap : n ≤ cap) (hn : n ≤ 1000000) (hbs : Lib.compact zs = bs) :
    Calls Try.prog 37 #[.slice a n cap] w fun e w' => e = .returned (.slice a bs.length cap) ∧ IntsPost m w a bs.length bs w' ∧ ∀ b o v, (∀ g, a = some ⟨g, 0, none⟩ → g ≠ b) → BoxAt w b o v → BoxAt w' b o v := by
  subst hbs
  obtain ⟨rfl, h⟩ := h
  rcases h with h0 | ⟨g, rfl, hm, hx⟩
  · obtain rfl := List.eq_nil_of_length_eq_zero h0
    refine (Go.Proofs.AnyG.slices_Compact_int_empty Try.compIn a cap w).mono fun e w' ⟨he, hw⟩ => ⟨he, ⟨⟨rfl, .inl rfl⟩, fun U hU _ => hw ▸ hU, by rw [hw]; exact Nat.le_refl _⟩, fun b o v _ hb => hw ▸ hb⟩
  · refine (Go.Proofs.AnyG.slices_Compact_int Try.compIn g 0 cap zs w (IntsB.holds hx) (by omega) hcap).mono fun e w' ⟨he, q, hw⟩ => ⟨he, ⟨⟨rfl, .inr ⟨g, rfl, hm, ?_⟩⟩, ?_, ?_⟩, fun b o v hne hb => ?_⟩
    · have hle := Lib.compact_length_le zs
      have := holds_ints (w := w') (g := g) (zs := Lib.compact zs ++ List.replicate (zs.length - (Lib.compact zs).length) 0) (by
        rw [hw]
        exact Go.Sort.holds_putRow _ _ _ _ zs.toArray _ (Go.Sort.holds_ahead _ _ _ _ _ _ (IntsB.holds hx)) (by simp; omega))
      exact fun k z hz => this k z (by rw [List.getElem?_append_left (List.getElem?_eq_some_iff.1 hz).1]; exact hz)
    · intro U hU hUn
      rw [hw]
      exact putRow_ext9 _ hU (Nat.le_trans hUn hm) _
    · rw [hw, Go.Sort.size_putRow]; exact Nat.le_refl _
    · have hne' : b ≠ g := fun e => hne g rfl e.symm
      rw [hw]
      exact ⟨(Go.Sort.cell?_putRow_other _ _ _ _ _ _ (.inl hne')).trans hb.1, (Go.Sort.frozen?_putRow _ _ _ _ _ _).trans hb.2⟩
/-- A search in ascending numbers. -/
theorem Search_c {w0 : World} {b : Nat} {s : List Nat} (c : Nat) (x : Int) (w : World) (h : NatsAt w0 b s) (e0 : Ext w0 w) (hs : s.Pairwise (· < ·)) (hn : s.length ≤ 1000000) :
    Calls Try.prog 60 #[.slice (some ⟨b, 0, none⟩) s.length c, .int .i64 x] w fun e w' => ∃ k : Int, e = .returned (.tuple #[.int .i64 k, .bool (s.any fun v => decide ((v : Int) = x))]) ∧ Ext w w' := by
  have hx := (h.ext e0).2
  refine (Go.Proofs.AnyG.slices_BinarySearch_int Try.srchIn b 0 s.length c (s.map fun v : Nat => (v : Int)) x w (by simp) (by omega) (fun j hj => ?_) ?_).mono fun e w' ⟨he, q, hw⟩ => ?_
  · have hj' : j < s.length := by simpa using hj
    rw [Nat.zero_add, hx j _ (List.getElem?_eq_getElem hj')]
    simp [List.getD, hj']
  · rw [List.take_of_length_le (by simp), List.pairwise_map]
    exact hs.imp fun h => by omega
  · have hcc : ((s.map fun v : Nat => (v : Int)).take s.length).contains x = s.any fun v => decide ((v : Int) = x) := by
      rw [List.take_of_length_le (by simp), Bool.eq_iff_iff, List.contains_iff_mem, List.any_eq_true, List.mem_map]
      constructor
      · rintro ⟨v, hv, e⟩; exact ⟨v, hv, by simp [e]⟩
      · rintro ⟨v, hv, e⟩; exact ⟨v, hv, by simpa using e⟩
    rw [hcc] at he
    exact ⟨_, he, hw ▸ Ext.drewN (Ext.refl _) q⟩

/-! Lists of sets. -/
def snN (S : List (List Nat)) (i : Nat) : List Nat := S[i]?.getD []
theorem snN_at {S : List (List Nat)} {i : Nat} (h : i < S.length) : S[i]? = some (snN S i) := by unfold snN; rw [List.getElem?_eq_getElem h]; rfl
/-- The slice of the set number k. -/
@[reducible] def slv (fb fc : Nat → Nat) (S : List (List Nat)) (k : Nat) : Value := .slice (some ⟨fb k, 0, none⟩) (snN S k).length (fc k)
/-- In the cells of block g lie the sets' slices, and each one's numbers. -/
structure SetsV (w : World) (g n : Nat) (fb fc : Nat → Nat) (S : List (List Nat)) : Prop where
  len : S.length = n
  lt : g < w.heap.size
  cell : ∀ k, k < n → w.cell? ⟨g, k, none⟩ = some (slv fb fc S k)
  nats : ∀ k, k < n → NatsAt w (fb k) (snN S k)
theorem SetsV.ext {w w' : World} {g n : Nat} {fb fc : Nat → Nat} {S : List (List Nat)} (h : SetsV w g n fb fc S) (hE : Ext w w') : SetsV w' g n fb fc S := ⟨h.len, Nat.lt_of_lt_of_le h.lt hE.size, fun k hk => hE.cell (h.cell k hk), fun k hk => (h.nats k hk).ext hE⟩
def SetsAt (w : World) (a : Option Addr) (n : Nat) (S : List (List Nat)) : Prop := S.length = n ∧ n ≤ 1000000 ∧ (n = 0 ∨ ∃ g fb fc, a = some ⟨g, 0, none⟩ ∧ SetsV w g n fb fc S)
theorem SetsAt.ext {w w' : World} {a : Option Addr} {n : Nat} {S : List (List Nat)} (h : SetsAt w a n S) (hE : Ext w w') : SetsAt w' a n S := ⟨h.1, h.2.1, h.2.2.imp id fun ⟨g, fb, fc, ha, hv⟩ => ⟨g, fb, fc, ha, hv.ext hE⟩⟩
/-- A set in a list of one's own. -/
def setR : Rep (List Nat) where
  rel w c x F := ∃ (b k : Nat), c = [.slice (some ⟨b, 0, none⟩) x.length k] ∧ (∀ (k : Nat) v, x[k]? = some v → w.cell? ⟨b, k, none⟩ = some (.int .i64 (v : Int))) ∧ x ≠ [] ∧ F = [b]
  keep := by
    rintro w w' c x F ⟨b, k, rfl, hv, h0, rfl⟩ h
    exact ⟨b, k, rfl, fun k v hk => h b (by simp) _ _ (hv k v hk), h0, rfl⟩
  lt := by
    rintro w c x F ⟨b, k, rfl, hv, h0, rfl⟩ b' hb'
    obtain ⟨v, hv0⟩ : ∃ v, x[0]? = some v := by cases x with | nil => exact absurd rfl h0 | cons v _ => exact ⟨v, rfl⟩
    rw [List.mem_singleton.1 hb']; exact World.block_lt_of_cell? _ _ (hv 0 v hv0)
theorem setT : ElemT Try.prog 39 56 (.slice none 0 0) 1 24 := ⟨Try.underlying39, by kernel_rfl, rfl, by decide⟩
theorem own_sets {m n₀ e n cap : Nat} {a : Option Addr} {w : World} {S : List (List Nat)} (h : OwnL (freshR m setR) n₀ e 1 (.slice a n cap) w S) (hl : S.length = n) (h0 : 0 < n) : ∃ g fb fc, a = some ⟨g, 0, none⟩ ∧ n₀ ≤ g ∧ SetsV w g n fb fc S := by
  subst hl
  have hb := h.base
  have hlt := h.lt
  obtain ⟨cs, h1, h2, h3, h4⟩ := h
  rcases h3.2 with ⟨q1, q2⟩ | ⟨g, cap', cur, q1, _⟩
  · injection q1 with r1 r2 r3; omega
  · injection q1 with r1 r2 r3
    subst r1
    have hex : ∀ i : Nat, ∃ p : Nat × Nat, i < S.length → w.cell? ⟨g, i, none⟩ = some (.slice (some ⟨p.1, 0, none⟩) (snN S i).length p.2) ∧ NatsAt w p.1 (snN S i) := fun i => by
      by_cases hi : i < S.length
      · have hc := List.getElem?_eq_getElem (l := cs) (i := i) (by omega)
        obtain ⟨F, ⟨⟨b, k, e1, hv, hne, rfl⟩, _⟩, _⟩ := h4 i _ _ (snN_at hi) hc
        have f := flatten_get h2 i hc 0 (by omega)
        rw [e1, Nat.mul_one, Nat.add_zero] at f
        have hcl := own_cell9 h3 (j := i) (by omega) f
        rw [Nat.zero_add] at hcl
        obtain ⟨v, hv0⟩ : ∃ v, (snN S i)[0]? = some v := by
          revert hne
          cases snN S i with
          | nil => intro hne; exact absurd rfl hne
          | cons v _ => intro _; exact ⟨v, rfl⟩
        exact ⟨(b, k), fun _ => ⟨hcl, World.block_lt_of_cell? _ _ (hv 0 v hv0), hv⟩⟩
      · exact ⟨(0, 0), fun h => absurd h hi⟩
    obtain ⟨f, hf⟩ := Classical.axiomOfChoice hex
    exact ⟨g, fun k => (f k).1, fun k => (f k).2, rfl, hb g rfl, rfl, hlt g rfl, fun k hk => (hf k hk).1, fun k hk => (hf k hk).2⟩
/-- A row of slices that may be written. -/
def RowV (w : World) (g n : Nat) (f : Nat → Value) : Prop := ∀ k, k < n → BoxAt w g k (f k)
theorem RowV.ext {w w' : World} {g n : Nat} {f : Nat → Value} (h : RowV w g n f) (hE : Ext w w') : RowV w' g n f := fun k hk => BoxAt.ext hE (h k hk)
/-- A copy of a list of sets that is not empty. -/
theorem Clone_c {w0 : World} {g n : Nat} {fb fc : Nat → Nat} {S : List (List Nat)} (c : Nat) (w : World) (h : SetsV w0 g n fb fc S) (e0 : Ext w0 w) (h0 : 0 < n) (hn : n ≤ 1000000) :
    Calls Try.prog 39 #[.slice (some ⟨g, 0, none⟩) n c] w fun e w' => ∃ q k, e = .returned (.slice (some ⟨q, 0, none⟩) n k) ∧ n ≤ k ∧ w.heap.size ≤ q ∧ RowV w' q n (slv fb fc S) ∧ Ext w w' := by
  have hE := h.ext e0
  obtain ⟨i0, hi, hz0, hz1, hz2⟩ := info_parts setT.info
  refine (Go.Proofs.AnyE.slices_Clone Try.clonIn i0 (.slice none 0 0) 1 24 hi hz0 hz1 hz2 rfl (by decide) (by intro w; kernel_rfl) g 0 n c ((List.range n).map (slv fb fc S)) w (by simp) (by unfold maxLen; omega) (by omega) (fun j u hj => ?_) (fun u hu => ?_)).mono fun e w' ⟨v', he, hown, hne, hb⟩ => ?_
  · rw [List.getElem?_map] at hj
    obtain ⟨i, hi, rfl⟩ := Option.map_eq_some_iff.1 hj
    obtain ⟨hil, rfl⟩ := List.getElem?_eq_some_iff.1 hi
    rw [List.length_range] at hil
    rw [List.getElem_range, Nat.zero_add]
    exact hE.cell j hil
  · obtain ⟨i, _, rfl⟩ := List.mem_map.1 hu; rfl
  · rcases hown.2 with ⟨q, _⟩ | ⟨q, cap, cur, rfl, hq, _, hcap, _⟩
    · exact absurd q hne
    · refine ⟨q, cap, he, hcap, hq, fun k hk => ⟨?_, hown.frozenAt _⟩, ⟨hb.os, hb.tape, hb.output, hb.size, hb.block⟩⟩
      have := own_cell9 hown (j := k) (u := slv fb fc S k) (by omega) (by rw [List.getElem?_map, List.getElem?_range hk]; rfl)
      rwa [Nat.zero_add] at this
end Go.Proofs.Ytnbjjddfcondlaa

/- Contracts of package memory: which images are stored at a minute. -/
namespace Go.Proofs.Ytnbjjddfcondlaa
open Go.RowKit

namespace Mem
def alTo (l : List St) (t : Int) (i : Nat) : List Nat := (List.range i).filter (atB l t)
theorem atB_at {l : List St} {t : Int} {i : Nat} (hi : i < l.length) : atB l t i = live t (stN l i) := by unfold atB; rw [stN_at hi]
theorem alTo_y {l : List St} {t : Int} {i : Nat} (hi : i < l.length) (h1 : (stN l i).fr ≤ t) (h2 : t < (stN l i).to) : alTo l t (i + 1) = alTo l t i ++ [i] := by
  unfold alTo
  rw [List.range_succ, List.filter_append]
  have : atB l t i = true := by rw [atB_at hi]; exact live_iff.2 ⟨h1, h2⟩
  simp [this]
theorem alTo_n {l : List St} {t : Int} {i : Nat} (hi : i < l.length) (h : ¬ ((stN l i).fr ≤ t ∧ t < (stN l i).to)) : alTo l t (i + 1) = alTo l t i := by
  unfold alTo
  rw [List.range_succ, List.filter_append]
  have : atB l t i = false := by rw [atB_at hi, Bool.eq_false_iff]; exact fun h9 => h (live_iff.1 h9)
  simp [this]
theorem alTo_le (l : List St) (t : Int) (i : Nat) : (alTo l t i).length ≤ i := by
  unfold alTo
  exact Nat.le_trans (List.length_filter_le _ _) (by simp)
end Mem
set_option maxRecDepth 1000000 in
set_option maxHeartbeats 4000000 in
theorem stored_c {w0 : World} {a : Option Addr} {n : Nat} {l : List Mem.St} {w1 : World} {c B : Nat} (t : Int) (w : World) (h : StsAt w0 a n l) (hl24 : n ≤ 24) (e0 : Ext w0 w) (cB : w1.cell? ⟨B, 0, none⟩ = some (.slice a n c)) (e1 : Ext w1 w) (hne : Mem.alive l t ≠ []) :
    Calls Try.prog 35 #[.int .i64 t, .pointer (some ⟨B, 0, none⟩)] w fun e w' => ∃ b k, e = .returned (.slice (some ⟨b, 0, none⟩) (Mem.alive l t).length k) ∧ w.heap.size ≤ b ∧ NatsAt w' b (Mem.alive l t) ∧ Ext w w' := by
  replace cB := e1.cell cB; clear e1
  have hln := h.1; have hmx := h.2.1
  have hs0 := e0.size
  obtain ⟨bs, os, ha, hbl, hx⟩ := h.parts
  refine calls_cw 31 [(1, .pointer (some ⟨B, 0, none⟩)), (0, .int .i64 (t : Int))] Try.func35 rfl Try.ntmps35 (by kernel_rfl) (by kernel_rfl) (fun L => ?_)
  have hE : Ext w w := Ext.refl w
  refine cw_seq ?_
  refine cw_plain ?_
  refine pT (.slice none 0 0) ?_
  refine pl_nil ?_
  refine qw_then ?_
  refine cw_seq ?_
  refine cw_seq ?_
  refine cw_plain ?_
  refine pl_take (.slice a n c) rfl (by kernel_rfl) (by kernel_rfl) (by kernel_rfl) (ex_load rfl (by kernel_rfl) (ld27 (cB))) ?_
  refine pT (.int .i64 (((n : Nat) : Int) : Int)) ?_
  refine pT (.int .i64 0) ?_
  refine pl_nil ?_
  refine qw_then ?_
  refine cw_block ?_
  refine cw_loop [0, 3, 6, 7, 8] (fun ws' wr m => ∃ i : Nat, ∃ a9 : Option Addr, ∃ k9 : Nat, ∃ c9 : Nat, ws' = [(0, .int .i64 (t : Int)), (3, .slice a9 k9 c9), (6, .slice a n c), (7, .int .i64 (((n : Nat) : Int) : Int)), (8, .int .i64 (((i : Nat) : Int) : Int))] ∧ m = n - i ∧ w.heap.size ≤ wr.heap.size ∧ Ext w0 wr ∧ Ext w wr ∧ OwnL natR w.heap.size 3 1 (.slice a9 k9 c9) wr (Mem.alTo l t i) ∧ i ≤ n ∧ (Mem.alTo l t i).length = k9) (ws0 := [(0, .int .i64 (t : Int)), (3, .slice none 0 0), (6, .slice a n c), (7, .int .i64 (((n : Nat) : Int) : Int)), (8, .int .i64 0)]) (by kernel_rfl) _ ⟨0, none, 0, 0, rfl, rfl, Nat.le_refl _, e0, hE, OwnL.nil _ _ _ _ _, Nat.zero_le _, rfl⟩ ?_
  clear e0 hE
  rintro m3 L ws w2 ⟨i, a9, k9, c9, rfl, rfl, hs1, e0, hE, own9, hi, hk9⟩
  by_cases hlt : i < n
  ·
    obtain rfl := ha (by omega)
    obtain ⟨q4, q5, q6, q7⟩ := hx i hlt
    have hbk9 := own9.lt
    have hle9 := Mem.alTo_le l t i
    refine cw_seq ?_
    refine cw_plain ?_
    refine pl_take (.bool true) rfl (by kernel_rfl) (by kernel_rfl) (by kernel_rfl) (ev_dec (show _ = Result.ok (Next.value (Value.bool (decide ((((i : Nat) : Int) : Int) < (((n : Nat) : Int) : Int))))) _ from by kernel_rfl) (by omega)) ?_
    refine pl_nil ?_
    refine qw_then ?_
    refine cw_seq ?_
    refine cw_t (by kernel_rfl) ?_
    refine cw_skip ?_
    refine qw_then ?_
    refine cw_seq ?_
    refine cw_block ?_
    refine cw_seq ?_
    refine cw_plain ?_
    refine pT (.int .i64 (((i : Nat) : Int) : Int)) ?_
    refine pl_take (.pointer (some ⟨bs, os + i * 4, none⟩)) rfl (by kernel_rfl) (by kernel_rfl) (by kernel_rfl) (ex_index (p := .slice (some ⟨bs, os, none⟩) n c) (i := .int .i64 ((i : Nat) : Int)) rfl (by kernel_rfl) (by kernel_rfl) (ix27 (k := i) (by omega))) ?_
    refine pl_take (.agg #[.int .i64 ((stN l i).im : Int), .int .i64 ((stN l i).un : Int), .int .i64 ((stN l i).fr : Int), .int .i64 ((stN l i).to : Int)]) rfl (by kernel_rfl) (by kernel_rfl) (by kernel_rfl) (ex_load rfl (by kernel_rfl) (ld26 ((e0.cell q4)) ((e0.cell q5)) ((e0.cell q6)) ((e0.cell q7)))) ?_
    refine pl_step rfl (by kernel_rfl) (by kernel_rfl) (by kernel_rfl) (sn_new (us := #[.int .i64 0, .int .i64 0, .int .i64 0, .int .i64 0]) (t := 26) (by kernel_rfl) ?_)
    intro O8 X9 hO hOs hb hbx
    have hzO8 := hO; have hyO8 := hOs; clear hO hOs
    have bO8_0 : BoxAt X9 O8 0 (.int .i64 0) := hbx 0 _ rfl
    have bO8_1 : BoxAt X9 O8 1 (.int .i64 0) := hbx 1 _ rfl
    have bO8_2 : BoxAt X9 O8 2 (.int .i64 0) := hbx 2 _ rfl
    have bO8_3 : BoxAt X9 O8 3 (.int .i64 0) := hbx 3 _ rfl
    clear hbx
    replace e0 := e0.trans hb
    replace hE := hE.trans hb
    replace own9 := own9.ext hb
    have hs10 := hb.size
    clear hb
    have lt11 := bO8_0.lt
    refine pT (.int .i64 (((i : Nat) : Int) : Int)) ?_
    refine pl_put rfl (by kernel_rfl) (by kernel_rfl) (sn_setK4 (O := O8) (j := 0) (v0 := .int .i64 ((stN l i).im : Int)) (v1 := .int .i64 ((stN l i).un : Int)) (v2 := .int .i64 ((stN l i).fr : Int)) (v3 := .int .i64 ((stN l i).to : Int)) (ex_store (p := .pointer (some ⟨O8, 0, none⟩)) (v := .agg #[.int .i64 ((stN l i).im : Int), .int .i64 ((stN l i).un : Int), .int .i64 ((stN l i).fr : Int), .int .i64 ((stN l i).to : Int)]) rfl (by kernel_rfl) (by kernel_rfl) (st26 bO8_0.1 bO8_0.2 bO8_1.1 bO8_1.2 bO8_2.1 bO8_2.2 bO8_3.1 bO8_3.2)) bO8_0 bO8_1 bO8_2 bO8_3 ?_)
    intro X12 ho hv0 hv1 hv2 hv3 hk
    replace e0 := ho.ext e0 (Nat.le_trans (Nat.le_trans hs0 hs1) (Nat.le_of_eq hzO8))
    replace hE := ho.ext hE (Nat.le_trans hs1 (Nat.le_of_eq hzO8))
    replace own9 := own9.turn ho (own_not2 hbk9 (Nat.le_of_eq hzO8)) (fun _ _ _ h => by rw [h.2]; exact fun b hb => by cases hb)
    have hs13 : X9.heap.size ≤ X12.heap.size := Nat.le_of_eq ho.size.symm
    clear ho hk bO8_0 bO8_1 bO8_2 bO8_3
    have bO8_0 := hv0; clear hv0
    have bO8_1 := hv1; clear hv1
    have bO8_2 := hv2; clear hv2
    have bO8_3 := hv3; clear hv3
    refine pl_nil ?_
    refine qw_then ?_
    refine cw_seq ?_
    refine cw_plain ?_
    refine pT (.pointer (some ⟨O8, 2, none⟩)) ?_
    refine pT (.pointer (some ⟨O8, 2, none⟩)) ?_
    refine pl_take (.int .i64 ((stN l i).fr : Int)) rfl (by kernel_rfl) (by kernel_rfl) (by kernel_rfl) (ex_load rfl (by kernel_rfl) (ld3 (bO8_2.1))) ?_
    refine pT (.int .i64 (t : Int)) ?_
    by_cases hc14 : ((stN l i).fr : Int) ≤ (t : Int)
    ·
      refine pl_take (.bool true) rfl (by kernel_rfl) (by kernel_rfl) (by kernel_rfl) (ev_dec (show _ = Result.ok (Next.value (Value.bool (decide (((stN l i).fr : Int) ≤ (t : Int))))) _ from by kernel_rfl) (hc14)) ?_
      refine pT (.bool true) ?_
      refine pT (.int .i64 (t : Int)) ?_
      refine pT (.pointer (some ⟨O8, 2, none⟩)) ?_
      refine pT (.pointer (some ⟨O8, 3, none⟩)) ?_
      refine pl_take (.int .i64 ((stN l i).to : Int)) rfl (by kernel_rfl) (by kernel_rfl) (by kernel_rfl) (ex_load rfl (by kernel_rfl) (ld3 (bO8_3.1))) ?_
      by_cases hc15 : (t : Int) < ((stN l i).to : Int)
      ·
        refine pl_take (.bool true) rfl (by kernel_rfl) (by kernel_rfl) (by kernel_rfl) (ev_dec (show _ = Result.ok (Next.value (Value.bool (decide ((t : Int) < ((stN l i).to : Int))))) _ from by kernel_rfl) (hc15)) ?_
        refine pT (.bool true) ?_
        refine pl_nil ?_
        refine qw_then ?_
        refine cw_clean [0, 3, 4, 6, 7, 8, 24] (ws' := [(0, .int .i64 (t : Int)), (3, .slice a9 k9 c9), (4, .int .i64 (((i : Nat) : Int) : Int)), (6, .slice (some ⟨bs, os, none⟩) n c), (7, .int .i64 (((n : Nat) : Int) : Int)), (8, .int .i64 (((i : Nat) : Int) : Int)), (24, .bool true)]) (by kernel_rfl) (fun L => ?_)
        refine cw_t (by kernel_rfl) ?_
        refine cw_plain ?_
        refine pT (.slice a9 k9 c9) ?_
        refine pT (.int .i64 (((i : Nat) : Int) : Int)) ?_
        refine pl_step rfl (by kernel_rfl) (by kernel_rfl) (by kernel_rfl) (sn_newS (us := #[.int .i64 (((i : Nat) : Int) : Int)]) (t := 3) (k := 1) (c := 1) (by kernel_rfl) ?_)
        intro O16 X17 hO hOs hb hbx
        have hzO16 := hO; have hyO16 := hOs; clear hO hOs
        have bO16_0 : BoxAt X17 O16 0 (.int .i64 (((i : Nat) : Int) : Int)) := hbx 0 _ rfl
        clear hbx
        replace e0 := e0.trans hb
        replace hE := hE.trans hb
        replace own9 := own9.ext hb
        replace bO8_0 := BoxAt.ext hb bO8_0
        replace bO8_1 := BoxAt.ext hb bO8_1
        replace bO8_2 := BoxAt.ext hb bO8_2
        replace bO8_3 := BoxAt.ext hb bO8_3
        have hs18 := hb.size
        clear hb
        have lt19 := bO16_0.lt
        have hbs30 := own9.base
        obtain ⟨g20, cap21, w22, hrun23, own24, hgr25, hgb26⟩ := own_app1k (P := Try.prog) (ty := 56) intT (own9) (Nat.le_trans hs1 (Nat.le_trans hs10 (Nat.le_trans hs13 hs18))) (k := k9) hk9 (O := O16) (c := 1) (x := i) (d := [.int .i64 (((i : Nat) : Int) : Int)]) (F := []) rfl (cells1 (bO16_0.1)) (by simp [Value.oneCell']) (⟨rfl, rfl⟩) (fun b hb => by cases hb) (by omega) (by omega)
        refine pl_step rfl (by kernel_rfl) (by kernel_rfl) (by kernel_rfl) (sn_eff (v := .slice (some ⟨g20, 0, none⟩) (k9 + 1) cap21) (w' := w22) (ex_append rfl (by kernel_rfl) (by kernel_rfl) hrun23) ?_)
        replace bO8_0 := BoxAt.grownR bO8_0 hgb26 (own_not2 hbk9 (Nat.le_of_eq hzO8))
        replace bO8_1 := BoxAt.grownR bO8_1 hgb26 (own_not2 hbk9 (Nat.le_of_eq hzO8))
        replace bO8_2 := BoxAt.grownR bO8_2 hgb26 (own_not2 hbk9 (Nat.le_of_eq hzO8))
        replace bO8_3 := BoxAt.grownR bO8_3 hgb26 (own_not2 hbk9 (Nat.le_of_eq hzO8))
        replace bO16_0 := BoxAt.grownR bO16_0 hgb26 (own_not2 hbk9 (Nat.le_trans (Nat.le_trans hs10 hs13) (Nat.le_of_eq hzO16)))
        replace e0 := hgr25.ext _ e0 hs0
        replace hE := hgr25.ext _ hE (Nat.le_refl _)
        have hs27 := hgr25.size
        have hl28 := own24.base g20 rfl; have hh29 := own24.lt g20 rfl
        refine pT (.slice (some ⟨g20, 0, none⟩) (k9 + 1) cap21) ?_
        refine pl_nil ?_
        refine qw_block ?_
        refine qw_then ?_
        refine cw_plain ?_
        refine pl_take (.int .i64 (((i + 1 : Nat) : Int) : Int)) rfl (by kernel_rfl) (by kernel_rfl) (by kernel_rfl) (ev_wrap (by kernel_rfl) (by omega) (by omega)) ?_
        refine pT (.int .i64 (((i + 1 : Nat) : Int) : Int)) ?_
        refine pl_nil ?_
        have hal := Mem.alTo_y (l := l) (t := t) (i := i) (by omega) (by omega) (by omega)
        refine qw_round [0, 3, 6, 7, 8] (ws' := [(0, .int .i64 (t : Int)), (3, .slice (some ⟨g20, 0, none⟩) (k9 + 1) cap21), (6, .slice (some ⟨bs, os, none⟩) n c), (7, .int .i64 (((n : Nat) : Int) : Int)), (8, .int .i64 (((i + 1 : Nat) : Int) : Int))]) (by kernel_rfl) _ ?_ ⟨(i + 1), (some ⟨g20, 0, none⟩), (k9 + 1), cap21, rfl, rfl, (Nat.le_trans hs1 (Nat.le_trans hs10 (Nat.le_trans hs13 (Nat.le_trans hs18 hs27)))), e0, hE, (by rw [hal]; exact own24), by omega, (by rw [hal, List.length_append, hk9]; rfl)⟩
        omega
      ·
        refine pl_take (.bool false) rfl (by kernel_rfl) (by kernel_rfl) (by kernel_rfl) (ev_ndec (show _ = Result.ok (Next.value (Value.bool (decide ((t : Int) < ((stN l i).to : Int))))) _ from by kernel_rfl) (hc15)) ?_
        refine pT (.bool false) ?_
        refine pl_nil ?_
        refine qw_then ?_
        refine cw_clean [0, 3, 4, 6, 7, 8, 24] (ws' := [(0, .int .i64 (t : Int)), (3, .slice a9 k9 c9), (4, .int .i64 (((i : Nat) : Int) : Int)), (6, .slice (some ⟨bs, os, none⟩) n c), (7, .int .i64 (((n : Nat) : Int) : Int)), (8, .int .i64 (((i : Nat) : Int) : Int)), (24, .bool false)]) (by kernel_rfl) (fun L => ?_)
        refine cw_f (by kernel_rfl) ?_
        refine cw_skip ?_
        refine qw_block ?_
        refine qw_then ?_
        refine cw_plain ?_
        refine pl_take (.int .i64 (((i + 1 : Nat) : Int) : Int)) rfl (by kernel_rfl) (by kernel_rfl) (by kernel_rfl) (ev_wrap (by kernel_rfl) (by omega) (by omega)) ?_
        refine pT (.int .i64 (((i + 1 : Nat) : Int) : Int)) ?_
        refine pl_nil ?_
        have hal := Mem.alTo_n (l := l) (t := t) (i := i) (by omega) (by omega)
        refine qw_round [0, 3, 6, 7, 8] (ws' := [(0, .int .i64 (t : Int)), (3, .slice a9 k9 c9), (6, .slice (some ⟨bs, os, none⟩) n c), (7, .int .i64 (((n : Nat) : Int) : Int)), (8, .int .i64 (((i + 1 : Nat) : Int) : Int))]) (by kernel_rfl) _ ?_ ⟨(i + 1), a9, k9, c9, rfl, rfl, (Nat.le_trans hs1 (Nat.le_trans hs10 hs13)), e0, hE, (by rw [hal]; exact own9), by omega, (by rw [hal]; exact hk9)⟩
        omega
    ·
      refine pl_take (.bool false) rfl (by kernel_rfl) (by kernel_rfl) (by kernel_rfl) (ev_ndec (show _ = Result.ok (Next.value (Value.bool (decide (((stN l i).fr : Int) ≤ (t : Int))))) _ from by kernel_rfl) (hc14)) ?_
      refine pT (.bool false) ?_
      refine pl_skip rfl (by kernel_rfl) (by kernel_rfl) (by kernel_rfl) ?_
      refine pl_skip rfl (by kernel_rfl) (by kernel_rfl) (by kernel_rfl) ?_
      refine pl_skip rfl (by kernel_rfl) (by kernel_rfl) (by kernel_rfl) ?_
      refine pl_skip rfl (by kernel_rfl) (by kernel_rfl) (by kernel_rfl) ?_
      refine pl_skip rfl (by kernel_rfl) (by kernel_rfl) (by kernel_rfl) ?_
      refine pT (.bool false) ?_
      refine pl_nil ?_
      refine qw_then ?_
      refine cw_clean [0, 3, 4, 6, 7, 8, 24] (ws' := [(0, .int .i64 (t : Int)), (3, .slice a9 k9 c9), (4, .int .i64 (((i : Nat) : Int) : Int)), (6, .slice (some ⟨bs, os, none⟩) n c), (7, .int .i64 (((n : Nat) : Int) : Int)), (8, .int .i64 (((i : Nat) : Int) : Int)), (24, .bool false)]) (by kernel_rfl) (fun L => ?_)
      refine cw_f (by kernel_rfl) ?_
      refine cw_skip ?_
      refine qw_block ?_
      refine qw_then ?_
      refine cw_plain ?_
      refine pl_take (.int .i64 (((i + 1 : Nat) : Int) : Int)) rfl (by kernel_rfl) (by kernel_rfl) (by kernel_rfl) (ev_wrap (by kernel_rfl) (by omega) (by omega)) ?_
      refine pT (.int .i64 (((i + 1 : Nat) : Int) : Int)) ?_
      refine pl_nil ?_
      have hal := Mem.alTo_n (l := l) (t := t) (i := i) (by omega) (by omega)
      refine qw_round [0, 3, 6, 7, 8] (ws' := [(0, .int .i64 (t : Int)), (3, .slice a9 k9 c9), (6, .slice (some ⟨bs, os, none⟩) n c), (7, .int .i64 (((n : Nat) : Int) : Int)), (8, .int .i64 (((i + 1 : Nat) : Int) : Int))]) (by kernel_rfl) _ ?_ ⟨(i + 1), a9, k9, c9, rfl, rfl, (Nat.le_trans hs1 (Nat.le_trans hs10 hs13)), e0, hE, (by rw [hal]; exact own9), by omega, (by rw [hal]; exact hk9)⟩
      omega
  ·
    have hin : i = n := by omega
    have hal : Mem.alTo l t i = Mem.alive l t := by rw [hin, ← hln]; rfl
    rw [hal] at own9 hk9
    refine cw_seq ?_
    refine cw_plain ?_
    refine pl_take (.bool false) rfl (by kernel_rfl) (by kernel_rfl) (by kernel_rfl) (ev_ndec (show _ = Result.ok (Next.value (Value.bool (decide ((((i : Nat) : Int) : Int) < (((n : Nat) : Int) : Int))))) _ from by kernel_rfl) (by omega)) ?_
    refine pl_nil ?_
    refine qw_then ?_
    refine cw_seq ?_
    refine cw_f (by kernel_rfl) ?_
    refine cw_exit ?_
    refine qw_then_exit ?_
    refine qw_then_exit ?_
    refine qw_block_out ?_
    refine qw_then ?_
    refine cw_seq ?_
    refine cw_plain ?_
    refine pT (.slice a9 k9 c9) ?_
    refine pT (.slice a9 k9 c9) ?_
    refine pl_nil ?_
    refine qw_then ?_
    refine cw_ret ?_
    refine qw_ret [.slice a9 k9 c9] rfl ⟨(by kernel_rfl), trivial⟩ ?_
    have h0 : 0 < k9 := by rw [← hk9]; exact List.length_pos_iff.2 hne
    obtain ⟨b, rfl, hb1, hb2⟩ := own_nats own9 hk9 h0
    subst hk9
    exact ⟨b, _, rfl, hb1, hb2, hE⟩

end Go.Proofs.Ytnbjjddfcondlaa

/- Contracts of package memory: whether a set is contained in a greater one. -/
namespace Go.Proofs.Ytnbjjddfcondlaa
open Go.RowKit

namespace Mem
def inS (s : List Nat) (x : Int) : Bool := s.any fun v => decide ((v : Int) = x)
def outS (a s : List Nat) : Bool := a.any fun v => !inS s (v : Int)
def natN (s : List Nat) (i : Nat) : Nat := s[i]?.getD 0
theorem natN_at {s : List Nat} {i : Nat} (h : i < s.length) : s[i]? = some (natN s i) := by unfold natN; rw [List.getElem?_eq_getElem h]; rfl
theorem out_next {a s : List Nat} {i : Nat} (hi : i < a.length) (h : outS (a.take i) s = false) (hp : (!inS s (natN a i : Int)) = false) : outS (a.take (i + 1)) s = false := by
  unfold outS at *; rw [List.take_add_one, natN_at hi, List.any_append, h]; simpa using hp
theorem out_found {a s : List Nat} {i : Nat} (hi : i < a.length) (hp : (!inS s (natN a i : Int)) = true) : outS a s = true := by
  unfold outS; rw [List.any_eq_true]; exact ⟨_, List.mem_of_getElem? (natN_at hi), hp⟩
theorem inS_iff {s : List Nat} {v : Nat} : inS s (v : Int) = s.contains v := by
  unfold inS
  rw [Bool.eq_iff_iff, List.any_eq_true, List.contains_iff_mem]
  constructor
  · rintro ⟨u, hu, e⟩
    have : u = v := by have := of_decide_eq_true e; omega
    rw [← this]; exact hu
  · intro h; exact ⟨v, h, by simp⟩
theorem under_eq (a b : List Nat) : under a b = (decide (a.length < b.length) && !outS a b) := by
  unfold under outS
  congr 1
  rw [Bool.eq_iff_iff, List.all_eq_true, Bool.not_eq_true', ← Bool.not_eq_true, List.any_eq_true]
  constructor
  · rintro h ⟨v, hv, e⟩
    rw [inS_iff, h v hv] at e; cases e
  · intro h v hv
    cases q : b.contains v
    · exact absurd ⟨v, hv, by rw [inS_iff, q]; rfl⟩ h
    · rfl
theorem gone_next {S : List (List Nat)} {a : List Nat} {i : Nat} (hi : i < S.length) (h : gone (S.take i) a = false) (hp : under a (snN S i) = false) : gone (S.take (i + 1)) a = false := by
  unfold gone at *; rw [List.take_add_one, snN_at hi, List.any_append, h]; simp [hp]
theorem gone_found {S : List (List Nat)} {a : List Nat} {i : Nat} (hi : i < S.length) (hp : under a (snN S i) = true) : gone S a = true := by
  unfold gone; rw [List.any_eq_true]; exact ⟨_, List.mem_of_getElem? (snN_at hi), hp⟩
end Mem
/-- All of them ascend. -/
def AscS (S : List (List Nat)) : Prop := ∀ s ∈ S, s.Pairwise (· < ·) ∧ s.length ≤ 1000000
theorem AscS.at {S : List (List Nat)} (h : AscS S) {i : Nat} (hi : i < S.length) : (snN S i).Pairwise (· < ·) ∧ (snN S i).length ≤ 1000000 := h _ (List.mem_of_getElem? (snN_at hi))
set_option maxRecDepth 1000000 in
set_option maxHeartbeats 4000000 in
theorem within1_c {w0 w1 : World} {b B : Nat} {s : List Nat} {c : Nat} (x : Int) (w : World) (h : NatsAt w0 b s) (e0 : Ext w0 w) (cB : w1.cell? ⟨B, 0, none⟩ = some (.slice (some ⟨b, 0, none⟩) s.length c)) (e1 : Ext w1 w) (hs : s.Pairwise (· < ·)) (hn : s.length ≤ 1000000) : Calls Try.prog 59 #[.int .i64 x, .pointer (some ⟨B, 0, none⟩)] w fun e w' => e = .returned (.bool (!Mem.inS s x)) ∧ Ext w w' := by
  replace cB := e1.cell cB; clear e1
  have hs0 := e0.size
  refine calls_cw 14 [(1, .pointer (some ⟨B, 0, none⟩)), (0, .int .i64 (x : Int))] Try.func59 rfl Try.ntmps59 (by kernel_rfl) (by kernel_rfl) (fun L => ?_)
  have hE : Ext w w := Ext.refl w
  refine cw_seq ?_
  refine cw_plain ?_
  refine pT (.bool false) ?_
  refine pl_nil ?_
  refine qw_then ?_
  refine cw_seq ?_
  refine cw_plain ?_
  refine pl_take (.slice (some ⟨b, 0, none⟩) s.length c) rfl (by kernel_rfl) (by kernel_rfl) (by kernel_rfl) (ex_load rfl (by kernel_rfl) (ld56 (cB))) ?_
  refine pT (.int .i64 (x : Int)) ?_
  refine pl_step rfl (by kernel_rfl) (by kernel_rfl) (by kernel_rfl) (sn_call (f := 60) (args := #[.slice (some ⟨b, 0, none⟩) s.length c, .int .i64 (x : Int)]) (by kernel_rfl) ((Search_c c x _ h e0 hs hn).mono ?_))
  rintro e w2 ⟨k1, rfl, hb⟩
  replace e0 := e0.trans hb
  replace hE := hE.trans hb
  have hs3 := hb.size
  clear hb
  refine ⟨_, rfl, ?_⟩
  refine pT (.tuple #[.int .i64 (k1 : Int), .bool (Mem.inS s x)]) ?_
  refine pT (.int .i64 (k1 : Int)) ?_
  refine pT (.bool (Mem.inS s x)) ?_
  refine pT (.int .i64 (k1 : Int)) ?_
  refine pT (.bool (Mem.inS s x)) ?_
  refine pl_nil ?_
  refine qw_then ?_
  refine cw_seq ?_
  refine cw_plain ?_
  refine pT (.bool (Mem.inS s x)) ?_
  refine pT (.bool (!(Mem.inS s x))) ?_
  refine pT (.bool (!(Mem.inS s x))) ?_
  refine pl_nil ?_
  refine qw_then ?_
  refine cw_ret ?_
  refine qw_ret [.bool (!(Mem.inS s x))] rfl ⟨(by kernel_rfl), trivial⟩ ?_
  exact ⟨rfl, hE⟩
theorem within1_r {w0 w1 : World} {b B : Nat} {s : List Nat} {c : Nat} (x : Int) {r : Bool} (w : World) (h : NatsAt w0 b s) (e0 : Ext w0 w) (cB : w1.cell? ⟨B, 0, none⟩ = some (.slice (some ⟨b, 0, none⟩) s.length c)) (e1 : Ext w1 w) (hs : s.Pairwise (· < ·)) (hn : s.length ≤ 1000000) (hr : (!Mem.inS s x) = r) : Calls Try.prog 59 #[.int .i64 x, .pointer (some ⟨B, 0, none⟩)] w fun e w' => e = .returned (.bool r) ∧ Ext w w' := hr ▸ within1_c x w h e0 cB e1 hs hn
set_option maxRecDepth 1000000 in
set_option maxHeartbeats 4000000 in
theorem IndexW_c {w0 w1 : World} {b ba B : Nat} {s a : List Nat} {c : Nat} (ca : Nat) (w : World) (hA : NatsAt w0 ba a) (h : NatsAt w0 b s) (e0 : Ext w0 w) (cB : w1.cell? ⟨B, 0, none⟩ = some (.slice (some ⟨b, 0, none⟩) s.length c)) (e1 : Ext w1 w) (hs : s.Pairwise (· < ·)) (hn : s.length ≤ 1000000) (hna : a.length ≤ 1000000) : Calls Try.prog 74 #[.slice (some ⟨ba, 0, none⟩) a.length ca, .func (.func 59) #[] #[.pointer (some ⟨B, 0, none⟩)]] w fun e w' => ∃ z : Int, e = .returned (.int .i64 z) ∧ (0 ≤ z ↔ Mem.outS a s = true) ∧ (-1 ≤ z ∧ z ≤ 1000000) ∧ Ext w w' := by
  replace cB := e1.cell cB; clear e1
  have hs0 := e0.size
  refine calls_cw 19 [(1, .func (.func 59) #[] #[.pointer (some ⟨B, 0, none⟩)]), (0, .slice (some ⟨ba, 0, none⟩) a.length ca)] Try.func74 rfl Try.ntmps74 (by kernel_rfl) (by kernel_rfl) (fun L => ?_)
  have hE : Ext w w := Ext.refl w
  refine cw_seq ?_
  refine cw_plain ?_
  refine pT (.int .i64 0) ?_
  refine pl_nil ?_
  refine qw_then ?_
  refine cw_seq ?_
  refine cw_seq ?_
  refine cw_plain ?_
  refine pT (.slice (some ⟨ba, 0, none⟩) a.length ca) ?_
  refine pT (.int .i64 (((a.length : Nat) : Int) : Int)) ?_
  refine pT (.int .i64 0) ?_
  refine pl_nil ?_
  refine qw_then ?_
  refine cw_block ?_
  refine cw_loop [0, 1, 7, 8] (fun ws' wr m => ∃ i : Nat, ws' = [(0, .slice (some ⟨ba, 0, none⟩) a.length ca), (1, .func (.func 59) #[] #[.pointer (some ⟨B, 0, none⟩)]), (7, .int .i64 (((a.length : Nat) : Int) : Int)), (8, .int .i64 (((i : Nat) : Int) : Int))] ∧ m = a.length - i ∧ w.heap.size ≤ wr.heap.size ∧ Ext w0 wr ∧ Ext w wr ∧ i ≤ a.length ∧ Mem.outS (a.take i) s = false) (ws0 := [(0, .slice (some ⟨ba, 0, none⟩) a.length ca), (1, .func (.func 59) #[] #[.pointer (some ⟨B, 0, none⟩)]), (7, .int .i64 (((a.length : Nat) : Int) : Int)), (8, .int .i64 0)]) (by kernel_rfl) _ ⟨0, rfl, rfl, Nat.le_refl _, e0, hE, Nat.zero_le _, rfl⟩ ?_
  clear e0 hE
  rintro m3 L ws w2 ⟨i, rfl, rfl, hs1, e0, hE, hi, hno⟩
  by_cases hlt : i < a.length
  ·
    have q4 := hA.2 i _ (Mem.natN_at hlt)
    refine cw_seq ?_
    refine cw_plain ?_
    refine pl_take (.bool true) rfl (by kernel_rfl) (by kernel_rfl) (by kernel_rfl) (ev_dec (show _ = Result.ok (Next.value (Value.bool (decide ((((i : Nat) : Int) : Int) < (((a.length : Nat) : Int) : Int))))) _ from by kernel_rfl) (by omega)) ?_
    refine pl_nil ?_
    refine qw_then ?_
    refine cw_seq ?_
    refine cw_t (by kernel_rfl) ?_
    refine cw_skip ?_
    refine qw_then ?_
    refine cw_seq ?_
    refine cw_block ?_
    refine cw_seq ?_
    refine cw_plain ?_
    refine pT (.int .i64 (((i : Nat) : Int) : Int)) ?_
    refine pT (.int .i64 (((i : Nat) : Int) : Int)) ?_
    refine pl_nil ?_
    refine qw_then ?_
    refine cw_seq ?_
    refine cw_plain ?_
    refine pT (.func (.func 59) #[] #[.pointer (some ⟨B, 0, none⟩)]) ?_
    refine pT (.slice (some ⟨ba, 0, none⟩) a.length ca) ?_
    refine pT (.int .i64 (((i : Nat) : Int) : Int)) ?_
    refine pl_take (.pointer (some ⟨ba, i, none⟩)) rfl (by kernel_rfl) (by kernel_rfl) (by kernel_rfl) (ex_index (p := .slice (some ⟨ba, 0, none⟩) a.length ca) (i := .int .i64 ((i : Nat) : Int)) rfl (by kernel_rfl) (by kernel_rfl) (ix56z (k := i) (by omega))) ?_
    refine pl_take (.int .i64 (((Mem.natN a i : Nat) : Int) : Int)) rfl (by kernel_rfl) (by kernel_rfl) (by kernel_rfl) (ex_load rfl (by kernel_rfl) (ld3 ((e0.cell q4)))) ?_
    rcases Bool.eq_false_or_eq_true ((!Mem.inS s (((Mem.natN a i : Nat) : Int)))) with hb5 | hb5
    ·
      refine pl_step rfl (by kernel_rfl) (by kernel_rfl) (by kernel_rfl) (sn_call (f := 59) (args := #[.int .i64 (((Mem.natN a i : Nat) : Int) : Int), .pointer (some ⟨B, 0, none⟩)]) (by kernel_rfl) ((within1_r (((Mem.natN a i : Nat) : Int)) (r := true) _ h e0 ((hE.cell cB)) (Ext.refl _) hs hn hb5).mono ?_))
      rintro e w6 ⟨rfl, hb⟩
      replace e0 := e0.trans hb
      replace hE := hE.trans hb
      have hs7 := hb.size
      clear hb
      refine ⟨_, rfl, ?_⟩
      refine pl_nil ?_
      refine qw_then ?_
      refine cw_t (by kernel_rfl) ?_
      refine cw_seq ?_
      refine cw_plain ?_
      refine pT (.int .i64 (((i : Nat) : Int) : Int)) ?_
      refine pT (.int .i64 (((i : Nat) : Int) : Int)) ?_
      refine pl_nil ?_
      refine qw_then ?_
      refine cw_clean [4] (ws' := [(4, .int .i64 (((i : Nat) : Int) : Int))]) (by kernel_rfl) (fun L => ?_)
      refine cw_ret ?_
      refine qw_block_ret ?_
      refine qw_then_ret ?_
      refine qw_then_ret ?_
      refine qw_block_ret ?_
      refine qw_then_ret ?_
      refine qw_ret [.int .i64 (((i : Nat) : Int) : Int)] rfl ⟨(by kernel_rfl), trivial⟩ ?_
      exact ⟨_, rfl, ⟨fun _ => Mem.out_found hlt hb5, fun _ => by omega⟩, by omega, hE⟩
    ·
      refine pl_step rfl (by kernel_rfl) (by kernel_rfl) (by kernel_rfl) (sn_call (f := 59) (args := #[.int .i64 (((Mem.natN a i : Nat) : Int) : Int), .pointer (some ⟨B, 0, none⟩)]) (by kernel_rfl) ((within1_r (((Mem.natN a i : Nat) : Int)) (r := false) _ h e0 ((hE.cell cB)) (Ext.refl _) hs hn hb5).mono ?_))
      rintro e w8 ⟨rfl, hb⟩
      replace e0 := e0.trans hb
      replace hE := hE.trans hb
      have hs9 := hb.size
      clear hb
      refine ⟨_, rfl, ?_⟩
      refine pl_nil ?_
      refine qw_then ?_
      refine cw_f (by kernel_rfl) ?_
      refine cw_skip ?_
      refine qw_block ?_
      refine qw_then ?_
      refine cw_plain ?_
      refine pl_take (.int .i64 (((i + 1 : Nat) : Int) : Int)) rfl (by kernel_rfl) (by kernel_rfl) (by kernel_rfl) (ev_wrap (by kernel_rfl) (by omega) (by omega)) ?_
      refine pT (.int .i64 (((i + 1 : Nat) : Int) : Int)) ?_
      refine pl_nil ?_
      refine qw_round [0, 1, 7, 8] (ws' := [(0, .slice (some ⟨ba, 0, none⟩) a.length ca), (1, .func (.func 59) #[] #[.pointer (some ⟨B, 0, none⟩)]), (7, .int .i64 (((a.length : Nat) : Int) : Int)), (8, .int .i64 (((i + 1 : Nat) : Int) : Int))]) (by kernel_rfl) _ ?_ ⟨(i + 1), rfl, rfl, (Nat.le_trans hs1 hs9), e0, hE, by omega, Mem.out_next hlt hno hb5⟩
      omega
  ·
    have hin : i = a.length := by omega
    refine cw_seq ?_
    refine cw_plain ?_
    refine pl_take (.bool false) rfl (by kernel_rfl) (by kernel_rfl) (by kernel_rfl) (ev_ndec (show _ = Result.ok (Next.value (Value.bool (decide ((((i : Nat) : Int) : Int) < (((a.length : Nat) : Int) : Int))))) _ from by kernel_rfl) (by omega)) ?_
    refine pl_nil ?_
    refine qw_then ?_
    refine cw_seq ?_
    refine cw_f (by kernel_rfl) ?_
    refine cw_exit ?_
    refine qw_then_exit ?_
    refine qw_then_exit ?_
    refine qw_block_out ?_
    refine qw_then ?_
    refine cw_seq ?_
    refine cw_plain ?_
    refine pT (.int .i64 (-1 : Int)) ?_
    refine pl_nil ?_
    refine qw_then ?_
    refine cw_ret ?_
    refine qw_ret [.int .i64 (-1 : Int)] rfl ⟨(by kernel_rfl), trivial⟩ ?_
    exact ⟨_, rfl, ⟨fun h => absurd h (by omega), fun h => by rw [hin, List.take_length] at hno; rw [hno] at h; cases h⟩, by omega, hE⟩
set_option maxRecDepth 1000000 in
set_option maxHeartbeats 4000000 in
theorem ContainsW_c {w0 w1 : World} {b ba B : Nat} {s a : List Nat} {c : Nat} (ca : Nat) (w : World) (hA : NatsAt w0 ba a) (h : NatsAt w0 b s) (e0 : Ext w0 w) (cB : w1.cell? ⟨B, 0, none⟩ = some (.slice (some ⟨b, 0, none⟩) s.length c)) (e1 : Ext w1 w) (hs : s.Pairwise (· < ·)) (hn : s.length ≤ 1000000) (hna : a.length ≤ 1000000) : Calls Try.prog 58 #[.slice (some ⟨ba, 0, none⟩) a.length ca, .func (.func 59) #[] #[.pointer (some ⟨B, 0, none⟩)]] w fun e w' => e = .returned (.bool (Mem.outS a s)) ∧ Ext w w' := by
  have hs0 := e0.size
  refine calls_cw 9 [(1, .func (.func 59) #[] #[.pointer (some ⟨B, 0, none⟩)]), (0, .slice (some ⟨ba, 0, none⟩) a.length ca)] Try.func58 rfl Try.ntmps58 (by kernel_rfl) (by kernel_rfl) (fun L => ?_)
  have hE : Ext w w := Ext.refl w
  refine cw_seq ?_
  refine cw_plain ?_
  refine pT (.bool false) ?_
  refine pl_nil ?_
  refine qw_then ?_
  refine cw_seq ?_
  refine cw_plain ?_
  refine pT (.slice (some ⟨ba, 0, none⟩) a.length ca) ?_
  refine pT (.func (.func 59) #[] #[.pointer (some ⟨B, 0, none⟩)]) ?_
  refine pl_step rfl (by kernel_rfl) (by kernel_rfl) (by kernel_rfl) (sn_call (f := 74) (args := #[.slice (some ⟨ba, 0, none⟩) a.length ca, .func (.func 59) #[] #[.pointer (some ⟨B, 0, none⟩)]]) (by kernel_rfl) ((IndexW_c _ _ hA h e0 cB (e1.trans (Ext.refl _)) hs hn hna).mono ?_))
  rintro e w1 ⟨z, rfl, hz, hzb, hb⟩
  replace e0 := e0.trans hb
  replace hE := hE.trans hb
  have hs2 := hb.size
  clear hb
  refine ⟨_, rfl, ?_⟩
  by_cases hc3 : (z : Int) ≥ (0 : Int)
  ·
    refine pl_take (.bool true) rfl (by kernel_rfl) (by kernel_rfl) (by kernel_rfl) (ev_dec (show _ = Result.ok (Next.value (Value.bool (decide ((z : Int) ≥ (0 : Int))))) _ from by kernel_rfl) (hc3)) ?_
    refine pT (.bool true) ?_
    refine pl_nil ?_
    refine qw_then ?_
    refine cw_ret ?_
    refine qw_ret [.bool true] rfl ⟨(by kernel_rfl), trivial⟩ ?_
    exact ⟨congrArg (fun b => Ending.returned (Value.bool b)) ((hz.1 hc3).symm), hE⟩
  ·
    refine pl_take (.bool false) rfl (by kernel_rfl) (by kernel_rfl) (by kernel_rfl) (ev_ndec (show _ = Result.ok (Next.value (Value.bool (decide ((z : Int) ≥ (0 : Int))))) _ from by kernel_rfl) (hc3)) ?_
    refine pT (.bool false) ?_
    refine pl_nil ?_
    refine qw_then ?_
    refine cw_ret ?_
    refine qw_ret [.bool false] rfl ⟨(by kernel_rfl), trivial⟩ ?_
    exact ⟨congrArg (fun b => Ending.returned (Value.bool b)) (by cases q : Mem.outS a s; rfl; exact absurd (hz.2 q) hc3), hE⟩
set_option maxRecDepth 1000000 in
set_option maxHeartbeats 4000000 in
theorem within_c {w0 : World} {b ba : Nat} {s a : List Nat} (ca c : Nat) (w : World) (hA : NatsAt w0 ba a) (h : NatsAt w0 b s) (e0 : Ext w0 w) (hs : s.Pairwise (· < ·)) (hn : s.length ≤ 1000000) (hna : a.length ≤ 1000000) : Calls Try.prog 43 #[.slice (some ⟨ba, 0, none⟩) a.length ca, .slice (some ⟨b, 0, none⟩) s.length c] w fun e w' => e = .returned (.bool (!Mem.outS a s)) ∧ Ext w w' := by
  have hs0 := e0.size
  refine calls_cw 9 [(1, .slice (some ⟨b, 0, none⟩) s.length c), (0, .slice (some ⟨ba, 0, none⟩) a.length ca)] Try.func43 rfl Try.ntmps43 (by kernel_rfl) (by kernel_rfl) (fun L => ?_)
  have hE : Ext w w := Ext.refl w
  refine cw_seq ?_
  refine cw_plain ?_
  refine pl_step rfl (by kernel_rfl) (by kernel_rfl) (by kernel_rfl) (sn_new (us := #[.slice (some ⟨b, 0, none⟩) s.length c]) (t := 56) (by kernel_rfl) ?_)
  intro O1 X2 hO hOs hb hbx
  have hzO1 := hO; have hyO1 := hOs; clear hO hOs
  have bO1_0 : BoxAt X2 O1 0 (.slice (some ⟨b, 0, none⟩) s.length c) := hbx 0 _ rfl
  clear hbx
  replace e0 := e0.trans hb
  replace hE := hE.trans hb
  have hs3 := hb.size
  clear hb
  have lt4 := bO1_0.lt
  refine pT (.bool false) ?_
  refine pl_nil ?_
  refine qw_then ?_
  refine cw_seq ?_
  refine cw_plain ?_
  refine pT (.slice (some ⟨ba, 0, none⟩) a.length ca) ?_
  refine pT (.func (.func 59) #[] #[.pointer (some ⟨O1, 0, none⟩)]) ?_
  refine pl_step rfl (by kernel_rfl) (by kernel_rfl) (by kernel_rfl) (sn_call (f := 58) (args := #[.slice (some ⟨ba, 0, none⟩) a.length ca, .func (.func 59) #[] #[.pointer (some ⟨O1, 0, none⟩)]]) (by kernel_rfl) ((ContainsW_c _ _ hA h e0 (bO1_0.1) (Ext.refl _) hs hn hna).mono ?_))
  rintro e w5 ⟨rfl, hb⟩
  replace e0 := e0.trans hb
  replace hE := hE.trans hb
  replace bO1_0 := BoxAt.ext hb bO1_0
  have hs6 := hb.size
  clear hb
  refine ⟨_, rfl, ?_⟩
  refine pT (.bool (!(Mem.outS a s))) ?_
  refine pT (.bool (!(Mem.outS a s))) ?_
  refine pl_nil ?_
  refine qw_then ?_
  refine cw_ret ?_
  refine qw_ret [.bool (!(Mem.outS a s))] rfl ⟨(by kernel_rfl), trivial⟩ ?_
  exact ⟨rfl, hE⟩
set_option maxRecDepth 1000000 in
set_option maxHeartbeats 4000000 in
theorem under_c {w0 w1 : World} {b ba B : Nat} {s a : List Nat} {ca : Nat} (c : Nat) (w : World) (hA : NatsAt w0 ba a) (h : NatsAt w0 b s) (e0 : Ext w0 w) (cB : w1.cell? ⟨B, 0, none⟩ = some (.slice (some ⟨ba, 0, none⟩) a.length ca)) (e1 : Ext w1 w) (hs : s.Pairwise (· < ·)) (hn : s.length ≤ 1000000) (hna : a.length ≤ 1000000) : Calls Try.prog 42 #[.slice (some ⟨b, 0, none⟩) s.length c, .pointer (some ⟨B, 0, none⟩)] w fun e w' => e = .returned (.bool (Mem.under a s)) ∧ Ext w w' := by
  replace cB := e1.cell cB; clear e1
  have hs0 := e0.size
  refine calls_cw 14 [(1, .pointer (some ⟨B, 0, none⟩)), (0, .slice (some ⟨b, 0, none⟩) s.length c)] Try.func42 rfl Try.ntmps42 (by kernel_rfl) (by kernel_rfl) (fun L => ?_)
  have hE : Ext w w := Ext.refl w
  refine cw_seq ?_
  refine cw_plain ?_
  refine pT (.bool false) ?_
  refine pl_nil ?_
  refine qw_then ?_
  refine cw_seq ?_
  refine cw_plain ?_
  refine pT (.slice (some ⟨b, 0, none⟩) s.length c) ?_
  refine pT (.int .i64 (((s.length : Nat) : Int) : Int)) ?_
  refine pl_take (.slice (some ⟨ba, 0, none⟩) a.length ca) rfl (by kernel_rfl) (by kernel_rfl) (by kernel_rfl) (ex_load rfl (by kernel_rfl) (ld56 (cB))) ?_
  refine pT (.int .i64 (((a.length : Nat) : Int) : Int)) ?_
  by_cases hc1 : (((s.length : Nat) : Int) : Int) > (((a.length : Nat) : Int) : Int)
  ·
    refine pl_take (.bool true) rfl (by kernel_rfl) (by kernel_rfl) (by kernel_rfl) (ev_dec (show _ = Result.ok (Next.value (Value.bool (decide ((((s.length : Nat) : Int) : Int) > (((a.length : Nat) : Int) : Int))))) _ from by kernel_rfl) (hc1)) ?_
    refine pT (.bool true) ?_
    refine pl_take (.slice (some ⟨ba, 0, none⟩) a.length ca) rfl (by kernel_rfl) (by kernel_rfl) (by kernel_rfl) (ex_load rfl (by kernel_rfl) (ld56 (cB))) ?_
    refine pT (.slice (some ⟨b, 0, none⟩) s.length c) ?_
    refine pl_step rfl (by kernel_rfl) (by kernel_rfl) (by kernel_rfl) (sn_call (f := 43) (args := #[.slice (some ⟨ba, 0, none⟩) a.length ca, .slice (some ⟨b, 0, none⟩) s.length c]) (by kernel_rfl) ((within_c _ _ _ hA h e0 hs hn hna).mono ?_))
    rintro e w2 ⟨rfl, hb⟩
    replace e0 := e0.trans hb
    replace hE := hE.trans hb
    have hs3 := hb.size
    clear hb
    refine ⟨_, rfl, ?_⟩
    refine pT (.bool (!Mem.outS a s)) ?_
    refine pT (.bool (!Mem.outS a s)) ?_
    refine pl_nil ?_
    refine qw_then ?_
    refine cw_ret ?_
    refine qw_ret [.bool (!Mem.outS a s)] rfl ⟨(by kernel_rfl), trivial⟩ ?_
    exact ⟨congrArg (fun b => Ending.returned (Value.bool b)) (show (!Mem.outS a s) = Mem.under a s by rw [Mem.under_eq, decide_eq_true (show a.length < s.length by omega)]; rfl), hE⟩
  ·
    refine pl_take (.bool false) rfl (by kernel_rfl) (by kernel_rfl) (by kernel_rfl) (ev_ndec (show _ = Result.ok (Next.value (Value.bool (decide ((((s.length : Nat) : Int) : Int) > (((a.length : Nat) : Int) : Int))))) _ from by kernel_rfl) (hc1)) ?_
    refine pT (.bool false) ?_
    refine pl_skip rfl (by kernel_rfl) (by kernel_rfl) (by kernel_rfl) ?_
    refine pl_skip rfl (by kernel_rfl) (by kernel_rfl) (by kernel_rfl) ?_
    refine pl_skip rfl (by kernel_rfl) (by kernel_rfl) (by kernel_rfl) ?_
    refine pT (.bool false) ?_
    refine pT (.bool false) ?_
    refine pl_nil ?_
    refine qw_then ?_
    refine cw_ret ?_
    refine qw_ret [.bool false] rfl ⟨(by kernel_rfl), trivial⟩ ?_
    exact ⟨congrArg (fun b => Ending.returned (Value.bool b)) (show (false) = Mem.under a s by rw [Mem.under_eq, decide_eq_false (show ¬ a.length < s.length by omega)]; rfl), hE⟩
theorem under_r {w0 w1 : World} {b ba B : Nat} {s a : List Nat} {ca : Nat} (c : Nat) {r : Bool} (w : World) (hA : NatsAt w0 ba a) (h : NatsAt w0 b s) (e0 : Ext w0 w) (cB : w1.cell? ⟨B, 0, none⟩ = some (.slice (some ⟨ba, 0, none⟩) a.length ca)) (e1 : Ext w1 w) (hs : s.Pairwise (· < ·)) (hn : s.length ≤ 1000000) (hna : a.length ≤ 1000000) (hr : Mem.under a s = r) : Calls Try.prog 42 #[.slice (some ⟨b, 0, none⟩) s.length c, .pointer (some ⟨B, 0, none⟩)] w fun e w' => e = .returned (.bool r) ∧ Ext w w' := hr ▸ under_c c w hA h e0 cB e1 hs hn hna
set_option maxRecDepth 1000000 in
set_option maxHeartbeats 4000000 in
theorem IndexU_c {w0 w1 : World} {g n ba B : Nat} {fb fc : Nat → Nat} {S : List (List Nat)} {a : List Nat} {ca : Nat} (cg : Nat) (w : World) (hS : SetsV w0 g n fb fc S) (hA : NatsAt w0 ba a) (e0 : Ext w0 w) (cB : w1.cell? ⟨B, 0, none⟩ = some (.slice (some ⟨ba, 0, none⟩) a.length ca)) (e1 : Ext w1 w) (hAs : AscS S) (hna : a.length ≤ 1000000) (hnn : n ≤ 1000000) : Calls Try.prog 57 #[.slice (some ⟨g, 0, none⟩) n cg, .func (.func 42) #[] #[.pointer (some ⟨B, 0, none⟩)]] w fun e w' => ∃ z : Int, e = .returned (.int .i64 z) ∧ (0 ≤ z ↔ Mem.gone S a = true) ∧ (-1 ≤ z ∧ z ≤ 1000000) ∧ Ext w w' := by
  replace cB := e1.cell cB; clear e1
  have hln := hS.len
  have hs0 := e0.size
  refine calls_cw 19 [(1, .func (.func 42) #[] #[.pointer (some ⟨B, 0, none⟩)]), (0, .slice (some ⟨g, 0, none⟩) n cg)] Try.func57 rfl Try.ntmps57 (by kernel_rfl) (by kernel_rfl) (fun L => ?_)
  have hE : Ext w w := Ext.refl w
  refine cw_seq ?_
  refine cw_plain ?_
  refine pT (.int .i64 0) ?_
  refine pl_nil ?_
  refine qw_then ?_
  refine cw_seq ?_
  refine cw_seq ?_
  refine cw_plain ?_
  refine pT (.slice (some ⟨g, 0, none⟩) n cg) ?_
  refine pT (.int .i64 (((n : Nat) : Int) : Int)) ?_
  refine pT (.int .i64 0) ?_
  refine pl_nil ?_
  refine qw_then ?_
  refine cw_block ?_
  refine cw_loop [0, 1, 7, 8] (fun ws' wr m => ∃ i : Nat, ws' = [(0, .slice (some ⟨g, 0, none⟩) n cg), (1, .func (.func 42) #[] #[.pointer (some ⟨B, 0, none⟩)]), (7, .int .i64 (((n : Nat) : Int) : Int)), (8, .int .i64 (((i : Nat) : Int) : Int))] ∧ m = n - i ∧ w.heap.size ≤ wr.heap.size ∧ Ext w0 wr ∧ Ext w wr ∧ i ≤ n ∧ Mem.gone (S.take i) a = false) (ws0 := [(0, .slice (some ⟨g, 0, none⟩) n cg), (1, .func (.func 42) #[] #[.pointer (some ⟨B, 0, none⟩)]), (7, .int .i64 (((n : Nat) : Int) : Int)), (8, .int .i64 0)]) (by kernel_rfl) _ ⟨0, rfl, rfl, Nat.le_refl _, e0, hE, Nat.zero_le _, rfl⟩ ?_
  clear e0 hE
  rintro m3 L ws w2 ⟨i, rfl, rfl, hs1, e0, hE, hi, hno⟩
  by_cases hlt : i < n
  ·
    have q4 := hS.cell i hlt
    have hna9 := hS.nats i hlt
    have has9 := hAs.at (show i < S.length by omega)
    refine cw_seq ?_
    refine cw_plain ?_
    refine pl_take (.bool true) rfl (by kernel_rfl) (by kernel_rfl) (by kernel_rfl) (ev_dec (show _ = Result.ok (Next.value (Value.bool (decide ((((i : Nat) : Int) : Int) < (((n : Nat) : Int) : Int))))) _ from by kernel_rfl) (by omega)) ?_
    refine pl_nil ?_
    refine qw_then ?_
    refine cw_seq ?_
    refine cw_t (by kernel_rfl) ?_
    refine cw_skip ?_
    refine qw_then ?_
    refine cw_seq ?_
    refine cw_block ?_
    refine cw_seq ?_
    refine cw_plain ?_
    refine pT (.int .i64 (((i : Nat) : Int) : Int)) ?_
    refine pT (.int .i64 (((i : Nat) : Int) : Int)) ?_
    refine pl_nil ?_
    refine qw_then ?_
    refine cw_seq ?_
    refine cw_plain ?_
    refine pT (.func (.func 42) #[] #[.pointer (some ⟨B, 0, none⟩)]) ?_
    refine pT (.slice (some ⟨g, 0, none⟩) n cg) ?_
    refine pT (.int .i64 (((i : Nat) : Int) : Int)) ?_
    refine pl_take (.pointer (some ⟨g, i, none⟩)) rfl (by kernel_rfl) (by kernel_rfl) (by kernel_rfl) (ex_index (p := .slice (some ⟨g, 0, none⟩) n cg) (i := .int .i64 ((i : Nat) : Int)) rfl (by kernel_rfl) (by kernel_rfl) (ix39z (k := i) (by omega))) ?_
    refine pl_take (.slice (some ⟨(fb i), 0, none⟩) ((snN S i).length) ((fc i))) rfl (by kernel_rfl) (by kernel_rfl) (by kernel_rfl) (ex_load rfl (by kernel_rfl) (ld56 ((e0.cell q4)))) ?_
    rcases Bool.eq_false_or_eq_true (Mem.under a (snN S i)) with hb5 | hb5
    ·
      refine pl_step rfl (by kernel_rfl) (by kernel_rfl) (by kernel_rfl) (sn_call (f := 42) (args := #[.slice (some ⟨(fb i), 0, none⟩) ((snN S i).length) ((fc i)), .pointer (some ⟨B, 0, none⟩)]) (by kernel_rfl) ((under_r (a := a) (s := snN S i) (r := true) _ _ hA hna9 e0 ((hE.cell cB)) (Ext.refl _) has9.1 has9.2 hna hb5).mono ?_))
      rintro e w6 ⟨rfl, hb⟩
      replace e0 := e0.trans hb
      replace hE := hE.trans hb
      have hs7 := hb.size
      clear hb
      refine ⟨_, rfl, ?_⟩
      refine pl_nil ?_
      refine qw_then ?_
      refine cw_t (by kernel_rfl) ?_
      refine cw_seq ?_
      refine cw_plain ?_
      refine pT (.int .i64 (((i : Nat) : Int) : Int)) ?_
      refine pT (.int .i64 (((i : Nat) : Int) : Int)) ?_
      refine pl_nil ?_
      refine qw_then ?_
      refine cw_clean [4] (ws' := [(4, .int .i64 (((i : Nat) : Int) : Int))]) (by kernel_rfl) (fun L => ?_)
      refine cw_ret ?_
      refine qw_block_ret ?_
      refine qw_then_ret ?_
      refine qw_then_ret ?_
      refine qw_block_ret ?_
      refine qw_then_ret ?_
      refine qw_ret [.int .i64 (((i : Nat) : Int) : Int)] rfl ⟨(by kernel_rfl), trivial⟩ ?_
      exact ⟨_, rfl, ⟨fun _ => Mem.gone_found (i := i) (by omega) hb5, fun _ => by omega⟩, by omega, hE⟩
    ·
      refine pl_step rfl (by kernel_rfl) (by kernel_rfl) (by kernel_rfl) (sn_call (f := 42) (args := #[.slice (some ⟨(fb i), 0, none⟩) ((snN S i).length) ((fc i)), .pointer (some ⟨B, 0, none⟩)]) (by kernel_rfl) ((under_r (a := a) (s := snN S i) (r := false) _ _ hA hna9 e0 ((hE.cell cB)) (Ext.refl _) has9.1 has9.2 hna hb5).mono ?_))
      rintro e w8 ⟨rfl, hb⟩
      replace e0 := e0.trans hb
      replace hE := hE.trans hb
      have hs9 := hb.size
      clear hb
      refine ⟨_, rfl, ?_⟩
      refine pl_nil ?_
      refine qw_then ?_
      refine cw_f (by kernel_rfl) ?_
      refine cw_skip ?_
      refine qw_block ?_
      refine qw_then ?_
      refine cw_plain ?_
      refine pl_take (.int .i64 (((i + 1 : Nat) : Int) : Int)) rfl (by kernel_rfl) (by kernel_rfl) (by kernel_rfl) (ev_wrap (by kernel_rfl) (by omega) (by omega)) ?_
      refine pT (.int .i64 (((i + 1 : Nat) : Int) : Int)) ?_
      refine pl_nil ?_
      refine qw_round [0, 1, 7, 8] (ws' := [(0, .slice (some ⟨g, 0, none⟩) n cg), (1, .func (.func 42) #[] #[.pointer (some ⟨B, 0, none⟩)]), (7, .int .i64 (((n : Nat) : Int) : Int)), (8, .int .i64 (((i + 1 : Nat) : Int) : Int))]) (by kernel_rfl) _ ?_ ⟨(i + 1), rfl, rfl, (Nat.le_trans hs1 hs9), e0, hE, by omega, Mem.gone_next (by omega) hno hb5⟩
      omega
  ·
    have hin : i = n := by omega
    refine cw_seq ?_
    refine cw_plain ?_
    refine pl_take (.bool false) rfl (by kernel_rfl) (by kernel_rfl) (by kernel_rfl) (ev_ndec (show _ = Result.ok (Next.value (Value.bool (decide ((((i : Nat) : Int) : Int) < (((n : Nat) : Int) : Int))))) _ from by kernel_rfl) (by omega)) ?_
    refine pl_nil ?_
    refine qw_then ?_
    refine cw_seq ?_
    refine cw_f (by kernel_rfl) ?_
    refine cw_exit ?_
    refine qw_then_exit ?_
    refine qw_then_exit ?_
    refine qw_block_out ?_
    refine qw_then ?_
    refine cw_seq ?_
    refine cw_plain ?_
    refine pT (.int .i64 (-1 : Int)) ?_
    refine pl_nil ?_
    refine qw_then ?_
    refine cw_ret ?_
    refine qw_ret [.int .i64 (-1 : Int)] rfl ⟨(by kernel_rfl), trivial⟩ ?_
    exact ⟨_, rfl, ⟨fun h => absurd h (by omega), fun h => by rw [hin, ← hln, List.take_length] at hno; rw [hno] at h; cases h⟩, by omega, hE⟩
set_option maxRecDepth 1000000 in
set_option maxHeartbeats 4000000 in
theorem ContainsU_c {w0 w1 : World} {g n ba B : Nat} {fb fc : Nat → Nat} {S : List (List Nat)} {a : List Nat} {ca : Nat} (cg : Nat) (w : World) (hS : SetsV w0 g n fb fc S) (hA : NatsAt w0 ba a) (e0 : Ext w0 w) (cB : w1.cell? ⟨B, 0, none⟩ = some (.slice (some ⟨ba, 0, none⟩) a.length ca)) (e1 : Ext w1 w) (hAs : AscS S) (hna : a.length ≤ 1000000) (hnn : n ≤ 1000000) : Calls Try.prog 41 #[.slice (some ⟨g, 0, none⟩) n cg, .func (.func 42) #[] #[.pointer (some ⟨B, 0, none⟩)]] w fun e w' => e = .returned (.bool (Mem.gone S a)) ∧ Ext w w' := by
  have hs0 := e0.size
  refine calls_cw 9 [(1, .func (.func 42) #[] #[.pointer (some ⟨B, 0, none⟩)]), (0, .slice (some ⟨g, 0, none⟩) n cg)] Try.func41 rfl Try.ntmps41 (by kernel_rfl) (by kernel_rfl) (fun L => ?_)
  have hE : Ext w w := Ext.refl w
  refine cw_seq ?_
  refine cw_plain ?_
  refine pT (.bool false) ?_
  refine pl_nil ?_
  refine qw_then ?_
  refine cw_seq ?_
  refine cw_plain ?_
  refine pT (.slice (some ⟨g, 0, none⟩) n cg) ?_
  refine pT (.func (.func 42) #[] #[.pointer (some ⟨B, 0, none⟩)]) ?_
  refine pl_step rfl (by kernel_rfl) (by kernel_rfl) (by kernel_rfl) (sn_call (f := 57) (args := #[.slice (some ⟨g, 0, none⟩) n cg, .func (.func 42) #[] #[.pointer (some ⟨B, 0, none⟩)]]) (by kernel_rfl) ((IndexU_c _ _ hS hA e0 cB (e1.trans (Ext.refl _)) hAs hna hnn).mono ?_))
  rintro e w1 ⟨z, rfl, hz, hzb, hb⟩
  replace e0 := e0.trans hb
  replace hE := hE.trans hb
  have hs2 := hb.size
  clear hb
  refine ⟨_, rfl, ?_⟩
  by_cases hc3 : (z : Int) ≥ (0 : Int)
  ·
    refine pl_take (.bool true) rfl (by kernel_rfl) (by kernel_rfl) (by kernel_rfl) (ev_dec (show _ = Result.ok (Next.value (Value.bool (decide ((z : Int) ≥ (0 : Int))))) _ from by kernel_rfl) (hc3)) ?_
    refine pT (.bool true) ?_
    refine pl_nil ?_
    refine qw_then ?_
    refine cw_ret ?_
    refine qw_ret [.bool true] rfl ⟨(by kernel_rfl), trivial⟩ ?_
    exact ⟨congrArg (fun b => Ending.returned (Value.bool b)) ((hz.1 hc3).symm), hE⟩
  ·
    refine pl_take (.bool false) rfl (by kernel_rfl) (by kernel_rfl) (by kernel_rfl) (ev_ndec (show _ = Result.ok (Next.value (Value.bool (decide ((z : Int) ≥ (0 : Int))))) _ from by kernel_rfl) (hc3)) ?_
    refine pT (.bool false) ?_
    refine pl_nil ?_
    refine qw_then ?_
    refine cw_ret ?_
    refine qw_ret [.bool false] rfl ⟨(by kernel_rfl), trivial⟩ ?_
    exact ⟨congrArg (fun b => Ending.returned (Value.bool b)) (by cases q : Mem.gone S a; rfl; exact absurd (hz.2 q) hc3), hE⟩
set_option maxRecDepth 1000000 in
set_option maxHeartbeats 4000000 in
theorem gone_c {w0 w1 : World} {g n ba B : Nat} {fb fc : Nat → Nat} {S : List (List Nat)} {a : List Nat} {cg : Nat} (ca : Nat) (w : World) (hS : SetsV w0 g n fb fc S) (hA : NatsAt w0 ba a) (e0 : Ext w0 w) (cB : w1.cell? ⟨B, 0, none⟩ = some (.slice (some ⟨g, 0, none⟩) n cg)) (e1 : Ext w1 w) (hAs : AscS S) (hna : a.length ≤ 1000000) (hnn : n ≤ 1000000) : Calls Try.prog 40 #[.slice (some ⟨ba, 0, none⟩) a.length ca, .pointer (some ⟨B, 0, none⟩)] w fun e w' => e = .returned (.bool (Mem.gone S a)) ∧ Ext w w' := by
  replace cB := e1.cell cB; clear e1
  have hs0 := e0.size
  refine calls_cw 7 [(1, .pointer (some ⟨B, 0, none⟩)), (0, .slice (some ⟨ba, 0, none⟩) a.length ca)] Try.func40 rfl Try.ntmps40 (by kernel_rfl) (by kernel_rfl) (fun L => ?_)
  have hE : Ext w w := Ext.refl w
  refine cw_seq ?_
  refine cw_plain ?_
  refine pl_step rfl (by kernel_rfl) (by kernel_rfl) (by kernel_rfl) (sn_new (us := #[.slice (some ⟨ba, 0, none⟩) a.length ca]) (t := 56) (by kernel_rfl) ?_)
  intro O1 X2 hO hOs hb hbx
  have hzO1 := hO; have hyO1 := hOs; clear hO hOs
  have bO1_0 : BoxAt X2 O1 0 (.slice (some ⟨ba, 0, none⟩) a.length ca) := hbx 0 _ rfl
  clear hbx
  replace e0 := e0.trans hb
  replace hE := hE.trans hb
  have hs3 := hb.size
  clear hb
  have lt4 := bO1_0.lt
  refine pT (.bool false) ?_
  refine pl_nil ?_
  refine qw_then ?_
  refine cw_seq ?_
  refine cw_plain ?_
  refine pl_take (.slice (some ⟨g, 0, none⟩) n cg) rfl (by kernel_rfl) (by kernel_rfl) (by kernel_rfl) (ex_load rfl (by kernel_rfl) (ld39 ((hE.cell cB)))) ?_
  refine pT (.func (.func 42) #[] #[.pointer (some ⟨O1, 0, none⟩)]) ?_
  refine pl_step rfl (by kernel_rfl) (by kernel_rfl) (by kernel_rfl) (sn_call (f := 41) (args := #[.slice (some ⟨g, 0, none⟩) n cg, .func (.func 42) #[] #[.pointer (some ⟨O1, 0, none⟩)]]) (by kernel_rfl) ((ContainsU_c _ _ hS hA e0 (bO1_0.1) (Ext.refl _) hAs hna hnn).mono ?_))
  rintro e w5 ⟨rfl, hb⟩
  replace e0 := e0.trans hb
  replace hE := hE.trans hb
  replace bO1_0 := BoxAt.ext hb bO1_0
  have hs6 := hb.size
  clear hb
  refine ⟨_, rfl, ?_⟩
  refine pT (.bool (Mem.gone S a)) ?_
  refine pl_nil ?_
  refine qw_then ?_
  refine cw_ret ?_
  refine qw_ret [.bool (Mem.gone S a)] rfl ⟨(by kernel_rfl), trivial⟩ ?_
  exact ⟨rfl, hE⟩
theorem gone_r {w0 w1 : World} {g n ba B : Nat} {fb fc : Nat → Nat} {S : List (List Nat)} {a : List Nat} {cg : Nat} (ca : Nat) {r : Bool} (w : World) (hS : SetsV w0 g n fb fc S) (hA : NatsAt w0 ba a) (e0 : Ext w0 w) (cB : w1.cell? ⟨B, 0, none⟩ = some (.slice (some ⟨g, 0, none⟩) n cg)) (e1 : Ext w1 w) (hAs : AscS S) (hna : a.length ≤ 1000000) (hnn : n ≤ 1000000) (hr : Mem.gone S a = r) : Calls Try.prog 40 #[.slice (some ⟨ba, 0, none⟩) a.length ca, .pointer (some ⟨B, 0, none⟩)] w fun e w' => e = .returned (.bool r) ∧ Ext w w' := hr ▸ gone_c ca w hS hA e0 cB e1 hAs hna hnn

end Go.Proofs.Ytnbjjddfcondlaa

/- Contracts of package memory: those that are contained in no greater one. -/
namespace Go.Proofs.Ytnbjjddfcondlaa
open Go.RowKit

namespace Mem
/-- The numbers of the sets that stay, of the first j. -/
def keptI (S : List (List Nat)) (j : Nat) : List Nat := (List.range j).filter fun i => !gone S (snN S i)
def layI (ks : List Nat) (k : Nat) : Nat := ks[k]?.getD k
theorem layI_ge {ks : List Nat} {k : Nat} (h : ks.length ≤ k) : layI ks k = k := by unfold layI; rw [List.getElem?_eq_none h]; rfl
theorem layI_snoc (ks : List Nat) (v k : Nat) : layI (ks ++ [v]) k = if k = ks.length then v else layI ks k := by
  unfold layI
  rcases Nat.lt_trichotomy k ks.length with h | h | h
  · rw [List.getElem?_append_left h, if_neg (by omega)]
  · rw [h, List.getElem?_append_right (Nat.le_refl _), Nat.sub_self, if_pos rfl]; rfl
  · rw [List.getElem?_append_right (by omega), List.getElem?_eq_none (by simp; omega), List.getElem?_eq_none (by omega), if_neg (by omega)]
theorem kept_y {S : List (List Nat)} {j : Nat} (h : gone S (snN S j) = false) : keptI S (j + 1) = keptI S j ++ [j] := by
  unfold keptI; rw [List.range_succ, List.filter_append]; simp [h]
theorem kept_n {S : List (List Nat)} {j : Nat} (h : gone S (snN S j) = true) : keptI S (j + 1) = keptI S j := by
  unfold keptI; rw [List.range_succ, List.filter_append]; simp [h]
theorem kept_all {S : List (List Nat)} : ∀ {j : Nat}, (∀ i, i < j → gone S (snN S i) = false) → keptI S j = List.range j
  | 0, _ => rfl
  | j + 1, h => by rw [kept_y (h j (by omega)), kept_all fun i hi => h i (by omega), List.range_succ]
theorem kept_map (S : List (List Nat)) : (keptI S S.length).map (snN S) = S.filter fun a => !gone S a := by
  have h : (List.range S.length).map (snN S) = S := by
    apply List.ext_getElem (by simp)
    intro i h1 h2
    rw [List.getElem_map, List.getElem_range]
    have := snN_at h2
    rw [List.getElem?_eq_getElem h2] at this
    exact (Option.some.inj this).symm
  have h2 : (S.filter fun a => !gone S a) = ((List.range S.length).map (snN S)).filter fun a => !gone S a := by rw [h]
  unfold keptI
  rw [h2, List.filter_map]
  rfl
theorem kept_lt {S : List (List Nat)} {j i : Nat} (h : i ∈ keptI S j) : i < j := by
  unfold keptI at h; exact List.mem_range.1 (List.mem_filter.1 h).1
end Mem
theorem RowV.congr {w : World} {g n : Nat} {f h : Nat → Value} (hR : RowV w g n f) (e : ∀ k, k < n → f k = h k) : RowV w g n h := fun k hk => by rw [← e k hk]; exact hR k hk
theorem RowV.put {w X : World} {g n m j : Nat} {f : Nat → Value} {ks : List Nat} (h : RowV w g n (fun k => f (Mem.layI ks k))) (hm : ks.length = m) (hv : BoxAt X g m (f j)) (hk : ∀ i x, i ≠ m → BoxAt w g i x → BoxAt X g i x) : RowV X g n (fun k => f (Mem.layI (ks ++ [j]) k)) := fun k hkn => by
  show BoxAt X g k (f (Mem.layI (ks ++ [j]) k))
  rw [Mem.layI_snoc, hm]
  by_cases e : k = m
  · subst e; rw [if_pos rfl]; exact hv
  · rw [if_neg e]; exact hk k _ e (h k hkn)
theorem turns_setCells (O : Nat) : ∀ (vs : List Value) (w : World) (o : Nat), Turns O w (w.setCells O o vs)
  | [], _, _ => ⟨rfl, fun _ _ => rfl, fun _ => rfl, fun _ h _ => h, fun _ _ => rfl, fun _ h _ => h⟩
  | v :: vs, w, o => by
    rw [World.setCells]
    exact (turns_set w O o v).trans (turns_setCells O vs _ _)
theorem box_setCells {O i : Nat} {u : Value} : ∀ (vs : List Value) (w : World) (o : Nat), i < o → BoxAt w O i u → BoxAt (w.setCells O o vs) O i u
  | [], _, _, _, h => h
  | v :: vs, w, o, hi, h => by
    rw [World.setCells]
    refine box_setCells vs _ _ (by omega) ⟨?_, by simp [go_sem, h.2]⟩
    rw [World.cell?_setCell_other w _ _ _ (fun e => by have := congrArg Addr.off e; simp at this; omega)]; exact h.1
theorem sn_clear {P : Program} {ev : Operand → Value} {oi : Oper} {w : World} {N : Value → World → Prop} {q m : Nat} {vs : List Value} (h1 : (execOp ev oi).run P w = .ok (.value (.tuple #[])) (w.setCells q m vs))
    (h : ∀ X, Turns q w X → (∀ i u, i < m → BoxAt w q i u → BoxAt X q i u) → N (.tuple #[]) X) : StepN P ev oi w N := sn_eff h1 (h _ (turns_setCells q vs w m) fun _i _u hi hu => box_setCells vs w m hi hu)
theorem ex_clear {P : Program} {ev : Operand → Value} {o : Oper} {w : World} {x : Operand} {t1 : TypeId} {s v' : Value} {w' : World} (hop : o.op = .call { callee := .builtin .clear, args := #[x], argTypes := #[t1] }) (hx : ev x = s)
    (h : (Builtin.clear_ #[t1] o.type #[s]).run P w = .ok v' w') : (execOp ev o).run P w = .ok (.value v') w' := by
  simp [execOp, hop, resolve, invoke, builtin, hx, h, Result.andThen]
theorem sl39z {w : World} {b n c k : Nat} (h1 : k ≤ n) (h2 : n ≤ c) (h4 : k ≠ c) : (Instr.sliceAt 39 (.slice (some ⟨b, 0, none⟩) n c) (some (.int .i64 (k : Int))) none none).run Try.prog w = .ok (.slice (some ⟨b, k, none⟩) (n - k) (c - k)) w := by
  have h := sl39_100 (w := w) (b := b) (o := 0) h1 h2 h4
  rwa [Nat.zero_add] at h
theorem RowV.clear {w : World} {q n m c : Nat} {ty : TypeId} (h : ∀ k, k < n → ∃ v, BoxAt w q k v) (hm : m < n) : (Builtin.clear_ #[39] ty #[.slice (some ⟨q, m, none⟩) (n - m) c]).run Try.prog w = .ok (.tuple #[]) (w.setCells q m (List.replicate (n - m) (.slice none 0 0))) :=
  Lib.run_clear_slice w 39 56 ty (.slice none 0 0) Try.underlying39 (by intro w; kernel_rfl) rfl rfl q m (n - m) c (by omega) (fun t ht => by
    obtain ⟨v, hv⟩ := h (m + t) (by omega)
    rw [hv.1]; rfl) (fun t ht => by
    obtain ⟨v, hv⟩ := h (m + t) (by omega)
    exact hv.2)
set_option maxRecDepth 1000000 in
set_option maxHeartbeats 4000000 in
theorem IndexD_c {w0 w1 : World} {g n q B : Nat} {fb fc : Nat → Nat} {S : List (List Nat)} {cg : Nat} (k : Nat) (w : World) (hS : SetsV w0 g n fb fc S) (e0 : Ext w0 w) (cB : w1.cell? ⟨B, 0, none⟩ = some (.slice (some ⟨g, 0, none⟩) n cg)) (e1 : Ext w1 w) (hAs : AscS S) (hR : RowV w q n (slv fb fc S)) (hnn : n ≤ 1000000) : Calls Try.prog 57 #[.slice (some ⟨q, 0, none⟩) n k, .func (.func 40) #[] #[.pointer (some ⟨B, 0, none⟩)]] w fun e w' => ∃ z : Int, e = .returned (.int .i64 z) ∧ ((z = -1 ∧ ∀ x, x < n → Mem.gone S (snN S x) = false) ∨ ∃ i : Nat, i < n ∧ z = (i : Int) ∧ Mem.gone S (snN S i) = true ∧ ∀ x, x < i → Mem.gone S (snN S x) = false) ∧ Ext w w' := by
  replace cB := e1.cell cB; clear e1
  have hln := hS.len
  have hs0 := e0.size
  refine calls_cw 19 [(1, .func (.func 40) #[] #[.pointer (some ⟨B, 0, none⟩)]), (0, .slice (some ⟨q, 0, none⟩) n k)] Try.func57 rfl Try.ntmps57 (by kernel_rfl) (by kernel_rfl) (fun L => ?_)
  have hE : Ext w w := Ext.refl w
  refine cw_seq ?_
  refine cw_plain ?_
  refine pT (.int .i64 0) ?_
  refine pl_nil ?_
  refine qw_then ?_
  refine cw_seq ?_
  refine cw_seq ?_
  refine cw_plain ?_
  refine pT (.slice (some ⟨q, 0, none⟩) n k) ?_
  refine pT (.int .i64 (((n : Nat) : Int) : Int)) ?_
  refine pT (.int .i64 0) ?_
  refine pl_nil ?_
  refine qw_then ?_
  refine cw_block ?_
  refine cw_loop [0, 1, 7, 8] (fun ws' wr m => ∃ i : Nat, ws' = [(0, .slice (some ⟨q, 0, none⟩) n k), (1, .func (.func 40) #[] #[.pointer (some ⟨B, 0, none⟩)]), (7, .int .i64 (((n : Nat) : Int) : Int)), (8, .int .i64 (((i : Nat) : Int) : Int))] ∧ m = n - i ∧ w.heap.size ≤ wr.heap.size ∧ Ext w0 wr ∧ Ext w wr ∧ i ≤ n ∧ (∀ x, x < i → Mem.gone S (snN S x) = false)) (ws0 := [(0, .slice (some ⟨q, 0, none⟩) n k), (1, .func (.func 40) #[] #[.pointer (some ⟨B, 0, none⟩)]), (7, .int .i64 (((n : Nat) : Int) : Int)), (8, .int .i64 0)]) (by kernel_rfl) _ ⟨0, rfl, rfl, Nat.le_refl _, e0, hE, Nat.zero_le _, (fun x hx => by omega)⟩ ?_
  clear e0 hE
  rintro m7 L ws w6 ⟨i, rfl, rfl, hs5, e0, hE, hi, hno⟩
  by_cases hlt : i < n
  ·
    have q8 := (hR i hlt).1
    have hna9 := hS.nats i hlt
    have has9 := hAs.at (show i < S.length by omega)
    refine cw_seq ?_
    refine cw_plain ?_
    refine pl_take (.bool true) rfl (by kernel_rfl) (by kernel_rfl) (by kernel_rfl) (ev_dec (show _ = Result.ok (Next.value (Value.bool (decide ((((i : Nat) : Int) : Int) < (((n : Nat) : Int) : Int))))) _ from by kernel_rfl) (by omega)) ?_
    refine pl_nil ?_
    refine qw_then ?_
    refine cw_seq ?_
    refine cw_t (by kernel_rfl) ?_
    refine cw_skip ?_
    refine qw_then ?_
    refine cw_seq ?_
    refine cw_block ?_
    refine cw_seq ?_
    refine cw_plain ?_
    refine pT (.int .i64 (((i : Nat) : Int) : Int)) ?_
    refine pT (.int .i64 (((i : Nat) : Int) : Int)) ?_
    refine pl_nil ?_
    refine qw_then ?_
    refine cw_seq ?_
    refine cw_plain ?_
    refine pT (.func (.func 40) #[] #[.pointer (some ⟨B, 0, none⟩)]) ?_
    refine pT (.slice (some ⟨q, 0, none⟩) n k) ?_
    refine pT (.int .i64 (((i : Nat) : Int) : Int)) ?_
    refine pl_take (.pointer (some ⟨q, i, none⟩)) rfl (by kernel_rfl) (by kernel_rfl) (by kernel_rfl) (ex_index (p := .slice (some ⟨q, 0, none⟩) n k) (i := .int .i64 ((i : Nat) : Int)) rfl (by kernel_rfl) (by kernel_rfl) (ix39z (k := i) (by omega))) ?_
    refine pl_take (.slice (some ⟨(fb i), 0, none⟩) ((snN S i).length) ((fc i))) rfl (by kernel_rfl) (by kernel_rfl) (by kernel_rfl) (ex_load rfl (by kernel_rfl) (ld56 ((hE.cell q8)))) ?_
    rcases Bool.eq_false_or_eq_true ((Mem.gone S (snN S i))) with hb9 | hb9
    ·
      refine pl_step rfl (by kernel_rfl) (by kernel_rfl) (by kernel_rfl) (sn_call (f := 40) (args := #[.slice (some ⟨(fb i), 0, none⟩) ((snN S i).length) ((fc i)), .pointer (some ⟨B, 0, none⟩)]) (by kernel_rfl) ((gone_r (a := snN S i) (r := true) _ _ hS hna9 e0 ((hE.cell cB)) (Ext.refl _) hAs has9.2 hnn hb9).mono ?_))
      rintro e w10 ⟨rfl, hb⟩
      replace e0 := e0.trans hb
      replace hE := hE.trans hb
      have hs11 := hb.size
      clear hb
      refine ⟨_, rfl, ?_⟩
      refine pl_nil ?_
      refine qw_then ?_
      refine cw_t (by kernel_rfl) ?_
      refine cw_seq ?_
      refine cw_plain ?_
      refine pT (.int .i64 (((i : Nat) : Int) : Int)) ?_
      refine pT (.int .i64 (((i : Nat) : Int) : Int)) ?_
      refine pl_nil ?_
      refine qw_then ?_
      refine cw_clean [4] (ws' := [(4, .int .i64 (((i : Nat) : Int) : Int))]) (by kernel_rfl) (fun L => ?_)
      refine cw_ret ?_
      refine qw_block_ret ?_
      refine qw_then_ret ?_
      refine qw_then_ret ?_
      refine qw_block_ret ?_
      refine qw_then_ret ?_
      refine qw_ret [.int .i64 (((i : Nat) : Int) : Int)] rfl ⟨(by kernel_rfl), trivial⟩ ?_
      exact ⟨_, rfl, .inr ⟨i, hlt, rfl, hb9, hno⟩, hE⟩
    ·
      refine pl_step rfl (by kernel_rfl) (by kernel_rfl) (by kernel_rfl) (sn_call (f := 40) (args := #[.slice (some ⟨(fb i), 0, none⟩) ((snN S i).length) ((fc i)), .pointer (some ⟨B, 0, none⟩)]) (by kernel_rfl) ((gone_r (a := snN S i) (r := false) _ _ hS hna9 e0 ((hE.cell cB)) (Ext.refl _) hAs has9.2 hnn hb9).mono ?_))
      rintro e w12 ⟨rfl, hb⟩
      replace e0 := e0.trans hb
      replace hE := hE.trans hb
      have hs13 := hb.size
      clear hb
      refine ⟨_, rfl, ?_⟩
      refine pl_nil ?_
      refine qw_then ?_
      refine cw_f (by kernel_rfl) ?_
      refine cw_skip ?_
      refine qw_block ?_
      refine qw_then ?_
      refine cw_plain ?_
      refine pl_take (.int .i64 (((i + 1 : Nat) : Int) : Int)) rfl (by kernel_rfl) (by kernel_rfl) (by kernel_rfl) (ev_wrap (by kernel_rfl) (by omega) (by omega)) ?_
      refine pT (.int .i64 (((i + 1 : Nat) : Int) : Int)) ?_
      refine pl_nil ?_
      refine qw_round [0, 1, 7, 8] (ws' := [(0, .slice (some ⟨q, 0, none⟩) n k), (1, .func (.func 40) #[] #[.pointer (some ⟨B, 0, none⟩)]), (7, .int .i64 (((n : Nat) : Int) : Int)), (8, .int .i64 (((i + 1 : Nat) : Int) : Int))]) (by kernel_rfl) _ ?_ ⟨(i + 1), rfl, rfl, (Nat.le_trans hs5 hs13), e0, hE, by omega, (fun x hx => by rcases Nat.eq_or_lt_of_le (show x ≤ i by omega) with rfl | hx; exact hb9; exact hno x hx)⟩
      omega
  ·
    have hin : i = n := by omega
    refine cw_seq ?_
    refine cw_plain ?_
    refine pl_take (.bool false) rfl (by kernel_rfl) (by kernel_rfl) (by kernel_rfl) (ev_ndec (show _ = Result.ok (Next.value (Value.bool (decide ((((i : Nat) : Int) : Int) < (((n : Nat) : Int) : Int))))) _ from by kernel_rfl) (by omega)) ?_
    refine pl_nil ?_
    refine qw_then ?_
    refine cw_seq ?_
    refine cw_f (by kernel_rfl) ?_
    refine cw_exit ?_
    refine qw_then_exit ?_
    refine qw_then_exit ?_
    refine qw_block_out ?_
    refine qw_then ?_
    refine cw_seq ?_
    refine cw_plain ?_
    refine pT (.int .i64 (-1 : Int)) ?_
    refine pl_nil ?_
    refine qw_then ?_
    refine cw_ret ?_
    refine qw_ret [.int .i64 (-1 : Int)] rfl ⟨(by kernel_rfl), trivial⟩ ?_
    exact ⟨_, rfl, .inl ⟨rfl, fun x hx => hno x (by omega)⟩, hE⟩
set_option maxRecDepth 1000000 in
set_option maxHeartbeats 4000000 in
theorem Delete_c {w0 w1 : World} {g n q B : Nat} {fb fc : Nat → Nat} {S : List (List Nat)} {cg : Nat} (k : Nat) (w : World) (hS : SetsV w0 g n fb fc S) (e0 : Ext w0 w) (cB : w1.cell? ⟨B, 0, none⟩ = some (.slice (some ⟨g, 0, none⟩) n cg)) (e1 : Ext w1 w) (hAs : AscS S) (hR : RowV w q n (slv fb fc S)) (hnn : n ≤ 1000000) (hs01 : w0.heap.size ≤ w1.heap.size) (hq : w1.heap.size ≤ q) (hnk : n ≤ k) (h0 : 0 < n) : Calls Try.prog 38 #[.slice (some ⟨q, 0, none⟩) n k, .func (.func 40) #[] #[.pointer (some ⟨B, 0, none⟩)]] w fun e w' => e = .returned (.slice (some ⟨q, 0, none⟩) (S.filter fun a => !Mem.gone S a).length k) ∧ ∃ fb' fc', SetsV w' q (S.filter fun a => !Mem.gone S a).length fb' fc' (S.filter fun a => !Mem.gone S a) ∧ Ext w0 w' ∧ Ext w1 w' := by
  have hln := hS.len
  have hs0 := e0.size
  have hs1 := e1.size
  have hlq := (hR 0 h0).lt
  refine calls_cw 42 [(1, .func (.func 40) #[] #[.pointer (some ⟨B, 0, none⟩)]), (0, .slice (some ⟨q, 0, none⟩) n k)] Try.func38 rfl Try.ntmps38 (by kernel_rfl) (by kernel_rfl) (fun L => ?_)
  have hE : Ext w w := Ext.refl w
  refine cw_seq ?_
  refine cw_plain ?_
  refine pT (.slice none 0 0) ?_
  refine pl_nil ?_
  refine qw_then ?_
  refine cw_seq ?_
  refine cw_plain ?_
  refine pT (.slice (some ⟨q, 0, none⟩) n k) ?_
  refine pT (.func (.func 40) #[] #[.pointer (some ⟨B, 0, none⟩)]) ?_
  refine pl_step rfl (by kernel_rfl) (by kernel_rfl) (by kernel_rfl) (sn_call (f := 57) (args := #[.slice (some ⟨q, 0, none⟩) n k, .func (.func 40) #[] #[.pointer (some ⟨B, 0, none⟩)]]) (by kernel_rfl) ((IndexD_c _ _ hS e0 cB e1 hAs hR hnn).mono ?_))
  rintro e w5 ⟨z, rfl, hz, hb⟩
  replace e0 := e0.trans hb
  replace e1 := e1.trans hb
  replace hE := hE.trans hb
  replace hR := hR.ext hb
  have hs6 := hb.size
  clear hb
  refine ⟨_, rfl, ?_⟩
  refine pT (.int .i64 (z : Int)) ?_
  refine pl_nil ?_
  refine qw_then ?_
  refine cw_seq ?_
  refine cw_seq ?_
  refine cw_plain ?_
  refine pT (.int .i64 (z : Int)) ?_
  by_cases hc7 : (z : Int) = (-1 : Int)
  ·
    have hall : ∀ x, x < n → Mem.gone S (snN S x) = false := by rcases hz with hz | ⟨i, hi, rfl, _⟩; exact hz.2; omega
    refine pl_take (.bool true) rfl (by kernel_rfl) (by kernel_rfl) (by kernel_rfl) (ev_eq (show _ = Result.ok (Next.value (Value.bool ((z : Int) == (-1 : Int)))) _ from by kernel_rfl) (hc7)) ?_
    refine pl_nil ?_
    refine qw_then ?_
    refine cw_t (by kernel_rfl) ?_
    refine cw_seq ?_
    refine cw_plain ?_
    refine pT (.slice (some ⟨q, 0, none⟩) n k) ?_
    refine pT (.slice (some ⟨q, 0, none⟩) n k) ?_
    refine pl_nil ?_
    refine qw_then ?_
    refine cw_ret ?_
    refine qw_then_ret ?_
    refine qw_ret [.slice (some ⟨q, 0, none⟩) n k] rfl ⟨(by kernel_rfl), trivial⟩ ?_
    have hflt : (S.filter fun a => !Mem.gone S a) = S := List.filter_eq_self.2 fun a ha => by obtain ⟨i, hi⟩ := List.getElem?_of_mem ha; have hil := (List.getElem?_eq_some_iff.1 hi).1; have := hall i (by omega); rw [snN_at hil] at hi; rw [← Option.some.inj hi, this]; rfl
    rw [hflt, hln]
    exact ⟨rfl, _, _, ⟨hln, Nat.lt_of_lt_of_le hlq hE.size, fun x hx => (hR x hx).1, fun x hx => (hS.nats x hx).ext e0⟩, e0, e1⟩
  ·
    obtain ⟨i0, hi0, rfl, hg0, hlo0⟩ : ∃ i : Nat, i < n ∧ z = (i : Int) ∧ Mem.gone S (snN S i) = true ∧ ∀ x, x < i → Mem.gone S (snN S x) = false := by rcases hz with hz | hz; omega; exact hz
    refine pl_take (.bool false) rfl (by kernel_rfl) (by kernel_rfl) (by kernel_rfl) (ev_neq (show _ = Result.ok (Next.value (Value.bool ((((i0 : Nat) : Int) : Int) == (-1 : Int)))) _ from by kernel_rfl) (hc7)) ?_
    refine pl_nil ?_
    refine qw_then ?_
    refine cw_f (by kernel_rfl) ?_
    refine cw_skip ?_
    refine qw_then ?_
    refine cw_seq ?_
    refine cw_seq ?_
    refine cw_plain ?_
    refine pT (.int .i64 (((i0 : Nat) : Int) : Int)) ?_
    refine pl_take (.int .i64 (((i0 + 1 : Nat) : Int) : Int)) rfl (by kernel_rfl) (by kernel_rfl) (by kernel_rfl) (ev_wrap (by kernel_rfl) (by omega) (by omega)) ?_
    refine pT (.int .i64 (((i0 + 1 : Nat) : Int) : Int)) ?_
    refine pl_nil ?_
    refine qw_then ?_
    refine cw_block ?_
    have hk0 : Mem.keptI S (i0 + 1) = List.range i0 := by rw [Mem.kept_n hg0, Mem.kept_all hlo0]
    refine cw_loop [0, 1, 5, 6] (fun ws' wr m => ∃ mm : Nat, ∃ j : Nat, ws' = [(0, .slice (some ⟨q, 0, none⟩) n k), (1, .func (.func 40) #[] #[.pointer (some ⟨B, 0, none⟩)]), (5, .int .i64 (((mm : Nat) : Int) : Int)), (6, .int .i64 (((j : Nat) : Int) : Int))] ∧ m = n - j ∧ w5.heap.size ≤ wr.heap.size ∧ Ext w0 wr ∧ Ext w1 wr ∧ RowV wr q n (fun x => slv fb fc S (Mem.layI (Mem.keptI S j) x)) ∧ (Mem.keptI S j).length = mm ∧ mm < j ∧ j ≤ n) (ws0 := [(0, .slice (some ⟨q, 0, none⟩) n k), (1, .func (.func 40) #[] #[.pointer (some ⟨B, 0, none⟩)]), (5, .int .i64 (((i0 : Nat) : Int) : Int)), (6, .int .i64 (((i0 + 1 : Nat) : Int) : Int))]) (by kernel_rfl) _ ⟨i0, (i0 + 1), rfl, rfl, Nat.le_refl _, e0, e1, (hR.congr fun x _ => by rw [hk0]; unfold Mem.layI; rcases Nat.lt_or_ge x i0 with hx | hx; rw [List.getElem?_range hx]; rfl; rw [List.getElem?_eq_none (by simp; omega)]; rfl), by rw [hk0, List.length_range], by omega, by omega⟩ ?_
    clear e0 e1
    rintro m10 L ws w9 ⟨mm, j, rfl, rfl, hs8, e0, e1, hR9, hm9, hmj, hjn9⟩
    have hX11 : Ext w9 w9 := Ext.refl _
    by_cases hlt : j < n
    ·
      have hna9 := hS.nats j hlt
      have has9 := hAs.at (show j < S.length by omega)
      refine cw_seq ?_
      refine cw_seq ?_
      refine cw_plain ?_
      refine pT (.int .i64 (((j : Nat) : Int) : Int)) ?_
      refine pT (.slice (some ⟨q, 0, none⟩) n k) ?_
      refine pT (.int .i64 (((n : Nat) : Int) : Int)) ?_
      refine pl_take (.bool true) rfl (by kernel_rfl) (by kernel_rfl) (by kernel_rfl) (ev_dec (show _ = Result.ok (Next.value (Value.bool (decide ((((j : Nat) : Int) : Int) < (((n : Nat) : Int) : Int))))) _ from by kernel_rfl) (by omega)) ?_
      refine pl_nil ?_
      refine qw_then ?_
      refine cw_t (by kernel_rfl) ?_
      refine cw_skip ?_
      refine qw_then ?_
      refine cw_seq ?_
      refine cw_block ?_
      refine cw_seq ?_
      refine cw_plain ?_
      refine pT (.slice (some ⟨q, 0, none⟩) n k) ?_
      refine pT (.int .i64 (((j : Nat) : Int) : Int)) ?_
      refine pl_take (.pointer (some ⟨q, j, none⟩)) rfl (by kernel_rfl) (by kernel_rfl) (by kernel_rfl) (ex_index (p := .slice (some ⟨q, 0, none⟩) n k) (i := .int .i64 ((j : Nat) : Int)) rfl (by kernel_rfl) (by kernel_rfl) (ix39z (k := j) (by omega))) ?_
      refine pl_take (.slice (some ⟨(fb j), 0, none⟩) ((snN S j).length) ((fc j))) rfl (by kernel_rfl) (by kernel_rfl) (by kernel_rfl) (ex_load rfl (by kernel_rfl) (ld56 (by have hz := ((hR9.ext (Ext.refl _)) j hlt).1; change _ = some (slv fb fc S (Mem.layI (Mem.keptI S j) j)) at hz; rw [Mem.layI_ge (by omega)] at hz; exact hz))) ?_
      refine pT (.slice (some ⟨(fb j), 0, none⟩) ((snN S j).length) ((fc j))) ?_
      refine pl_nil ?_
      refine qw_then ?_
      refine cw_seq ?_
      refine cw_plain ?_
      refine pT (.func (.func 40) #[] #[.pointer (some ⟨B, 0, none⟩)]) ?_
      refine pT (.slice (some ⟨(fb j), 0, none⟩) ((snN S j).length) ((fc j))) ?_
      rcases Bool.eq_false_or_eq_true (Mem.gone S (snN S j)) with hb12 | hb12
      ·
        refine pl_step rfl (by kernel_rfl) (by kernel_rfl) (by kernel_rfl) (sn_call (f := 40) (args := #[.slice (some ⟨(fb j), 0, none⟩) ((snN S j).length) ((fc j)), .pointer (some ⟨B, 0, none⟩)]) (by kernel_rfl) ((gone_r (a := snN S j) (r := true) _ _ hS hna9 e0 ((e1.cell cB)) (Ext.refl _) hAs has9.2 hnn hb12).mono ?_))
        rintro e w13 ⟨rfl, hb⟩
        replace e0 := e0.trans hb
        replace e1 := e1.trans hb
        replace hX11 := hX11.trans hb
        have hs14 := hb.size
        clear hb
        refine ⟨_, rfl, ?_⟩
        refine pT (.bool false) ?_
        refine pl_nil ?_
        refine qw_then ?_
        refine cw_clean [0, 1, 5, 6, 7, 29] (ws' := [(0, .slice (some ⟨q, 0, none⟩) n k), (1, .func (.func 40) #[] #[.pointer (some ⟨B, 0, none⟩)]), (5, .int .i64 (((mm : Nat) : Int) : Int)), (6, .int .i64 (((j : Nat) : Int) : Int)), (7, .slice (some ⟨(fb j), 0, none⟩) ((snN S j).length) ((fc j))), (29, .bool false)]) (by kernel_rfl) (fun L => ?_)
        refine cw_f (by kernel_rfl) ?_
        refine cw_skip ?_
        refine qw_block ?_
        refine qw_then ?_
        refine cw_plain ?_
        refine pT (.int .i64 (((j : Nat) : Int) : Int)) ?_
        refine pl_take (.int .i64 (((j + 1 : Nat) : Int) : Int)) rfl (by kernel_rfl) (by kernel_rfl) (by kernel_rfl) (ev_wrap (by kernel_rfl) (by omega) (by omega)) ?_
        refine pT (.int .i64 (((j + 1 : Nat) : Int) : Int)) ?_
        refine pl_nil ?_
        refine qw_round [0, 1, 5, 6] (ws' := [(0, .slice (some ⟨q, 0, none⟩) n k), (1, .func (.func 40) #[] #[.pointer (some ⟨B, 0, none⟩)]), (5, .int .i64 (((mm : Nat) : Int) : Int)), (6, .int .i64 (((j + 1 : Nat) : Int) : Int))]) (by kernel_rfl) _ ?_ ⟨mm, (j + 1), rfl, rfl, (Nat.le_trans hs8 hs14), e0, e1, (by rw [Mem.kept_n hb12]; exact (hR9.ext hX11)), (by rw [Mem.kept_n hb12]; exact hm9), by omega, by omega⟩
        omega
      ·
        refine pl_step rfl (by kernel_rfl) (by kernel_rfl) (by kernel_rfl) (sn_call (f := 40) (args := #[.slice (some ⟨(fb j), 0, none⟩) ((snN S j).length) ((fc j)), .pointer (some ⟨B, 0, none⟩)]) (by kernel_rfl) ((gone_r (a := snN S j) (r := false) _ _ hS hna9 e0 ((e1.cell cB)) (Ext.refl _) hAs has9.2 hnn hb12).mono ?_))
        rintro e w15 ⟨rfl, hb⟩
        replace e0 := e0.trans hb
        replace e1 := e1.trans hb
        replace hX11 := hX11.trans hb
        have hs16 := hb.size
        clear hb
        refine ⟨_, rfl, ?_⟩
        refine pT (.bool true) ?_
        refine pl_nil ?_
        refine qw_then ?_
        refine cw_clean [0, 1, 5, 6, 7, 29] (ws' := [(0, .slice (some ⟨q, 0, none⟩) n k), (1, .func (.func 40) #[] #[.pointer (some ⟨B, 0, none⟩)]), (5, .int .i64 (((mm : Nat) : Int) : Int)), (6, .int .i64 (((j : Nat) : Int) : Int)), (7, .slice (some ⟨(fb j), 0, none⟩) ((snN S j).length) ((fc j))), (29, .bool true)]) (by kernel_rfl) (fun L => ?_)
        refine cw_t (by kernel_rfl) ?_
        refine cw_seq ?_
        refine cw_plain ?_
        refine pT (.slice (some ⟨q, 0, none⟩) n k) ?_
        refine pT (.int .i64 (((mm : Nat) : Int) : Int)) ?_
        refine pT (.slice (some ⟨(fb j), 0, none⟩) ((snN S j).length) ((fc j))) ?_
        refine pl_take (.pointer (some ⟨q, mm, none⟩)) rfl (by kernel_rfl) (by kernel_rfl) (by kernel_rfl) (ex_index (p := .slice (some ⟨q, 0, none⟩) n k) (i := .int .i64 ((mm : Nat) : Int)) rfl (by kernel_rfl) (by kernel_rfl) (ix39z (k := mm) (by omega))) ?_
        have hRp := (hR9.ext hX11)
        have hka := hRp mm (by omega)
        refine pl_put rfl (by kernel_rfl) (by kernel_rfl) (sn_set (O := q) (j := mm) (v := slv fb fc S j) (ex_store (p := .pointer (some ⟨q, mm, none⟩)) (v := slv fb fc S j) rfl (by kernel_rfl) (by kernel_rfl) (st56 hka.1 hka.2)) hka ?_)
        intro X17 ho hv0 hk
        replace e0 := ho.ext e0 (Nat.le_trans hs01 hq)
        replace e1 := ho.ext e1 hq
        have hs18 : w15.heap.size ≤ X17.heap.size := Nat.le_of_eq ho.size.symm
        have hR19 := RowV.put (f := slv fb fc S) (j := j) hRp hm9 hv0 hk; clear ho hka hv0 hk hRp
        refine pl_nil ?_
        refine qw_then ?_
        refine cw_plain ?_
        refine pT (.int .i64 (((mm : Nat) : Int) : Int)) ?_
        refine pl_take (.int .i64 (((mm + 1 : Nat) : Int) : Int)) rfl (by kernel_rfl) (by kernel_rfl) (by kernel_rfl) (ev_wrap (by kernel_rfl) (by omega) (by omega)) ?_
        refine pT (.int .i64 (((mm + 1 : Nat) : Int) : Int)) ?_
        refine pl_nil ?_
        refine qw_block ?_
        refine qw_then ?_
        refine cw_plain ?_
        refine pT (.int .i64 (((j : Nat) : Int) : Int)) ?_
        refine pl_take (.int .i64 (((j + 1 : Nat) : Int) : Int)) rfl (by kernel_rfl) (by kernel_rfl) (by kernel_rfl) (ev_wrap (by kernel_rfl) (by omega) (by omega)) ?_
        refine pT (.int .i64 (((j + 1 : Nat) : Int) : Int)) ?_
        refine pl_nil ?_
        refine qw_round [0, 1, 5, 6] (ws' := [(0, .slice (some ⟨q, 0, none⟩) n k), (1, .func (.func 40) #[] #[.pointer (some ⟨B, 0, none⟩)]), (5, .int .i64 (((mm + 1 : Nat) : Int) : Int)), (6, .int .i64 (((j + 1 : Nat) : Int) : Int))]) (by kernel_rfl) _ ?_ ⟨(mm + 1), (j + 1), rfl, rfl, (Nat.le_trans hs8 (Nat.le_trans hs16 hs18)), e0, e1, (by rw [Mem.kept_y hb12]; exact hR19), (by rw [Mem.kept_y hb12, List.length_append, hm9]; rfl), by omega, by omega⟩
        omega
    ·
      have hjn : j = n := by omega
      refine cw_seq ?_
      refine cw_seq ?_
      refine cw_plain ?_
      refine pT (.int .i64 (((j : Nat) : Int) : Int)) ?_
      refine pT (.slice (some ⟨q, 0, none⟩) n k) ?_
      refine pT (.int .i64 (((n : Nat) : Int) : Int)) ?_
      refine pl_take (.bool false) rfl (by kernel_rfl) (by kernel_rfl) (by kernel_rfl) (ev_ndec (show _ = Result.ok (Next.value (Value.bool (decide ((((j : Nat) : Int) : Int) < (((n : Nat) : Int) : Int))))) _ from by kernel_rfl) (by omega)) ?_
      refine pl_nil ?_
      refine qw_then ?_
      refine cw_f (by kernel_rfl) ?_
      refine cw_exit ?_
      refine qw_then_exit ?_
      refine qw_then_exit ?_
      refine qw_block_out ?_
      refine qw_then ?_
      refine cw_seq ?_
      refine cw_plain ?_
      refine pT (.slice (some ⟨q, 0, none⟩) n k) ?_
      refine pT (.int .i64 (((mm : Nat) : Int) : Int)) ?_
      refine pl_take (.slice (some ⟨q, mm, none⟩) (n - mm) (k - mm)) rfl (by kernel_rfl) (by kernel_rfl) (by kernel_rfl) (ex_slice (p := .slice (some ⟨q, 0, none⟩) n k) rfl (by kernel_rfl) (by kernel_rfl) (by kernel_rfl) (by kernel_rfl) (sl39z (by omega) (by omega) (by omega))) ?_
      have hRp := (hR9.ext (Ext.refl _))
      refine pl_put rfl (by kernel_rfl) (by kernel_rfl) (sn_clear (ex_clear (s := .slice (some ⟨q, mm, none⟩) (n - mm) (k - mm)) rfl (by kernel_rfl) (RowV.clear (n := n) (m := mm) (c := k - mm) (fun x hx => ⟨_, hRp x hx⟩) (by omega))) ?_)
      intro X20 ho hk
      replace e0 := ho.ext e0 (Nat.le_trans hs01 hq)
      replace e1 := ho.ext e1 hq
      have hs21 : w9.heap.size ≤ X20.heap.size := Nat.le_of_eq ho.size.symm
      have hR8 : ∀ x, x < mm → BoxAt X20 q x (slv fb fc S (Mem.layI (Mem.keptI S n) x)) := fun x hx => hk x _ hx (hjn ▸ hRp x (by omega)); clear ho hk
      have hX22 : Ext X20 X20 := Ext.refl _
      refine pl_nil ?_
      refine qw_then ?_
      refine cw_seq ?_
      refine cw_plain ?_
      refine pT (.slice (some ⟨q, 0, none⟩) n k) ?_
      refine pT (.int .i64 (((mm : Nat) : Int) : Int)) ?_
      refine pl_take (.slice (some ⟨q, 0, none⟩) mm k) rfl (by kernel_rfl) (by kernel_rfl) (by kernel_rfl) (ex_slice (p := .slice (some ⟨q, 0, none⟩) n k) rfl (by kernel_rfl) (by kernel_rfl) (by kernel_rfl) (by kernel_rfl) (sl39_010 (m := mm) (by omega) (by omega))) ?_
      refine pT (.slice (some ⟨q, 0, none⟩) mm k) ?_
      refine pl_nil ?_
      refine qw_then ?_
      refine cw_clean [4] (ws' := [(4, .slice (some ⟨q, 0, none⟩) mm k)]) (by kernel_rfl) (fun L => ?_)
      refine cw_ret ?_
      refine qw_ret [.slice (some ⟨q, 0, none⟩) mm k] rfl ⟨(by kernel_rfl), trivial⟩ ?_
      have hmap := Mem.kept_map S
      rw [hln] at hmap
      have hfl : (S.filter fun a => !Mem.gone S a).length = mm := by rw [← hmap, List.length_map, ← hjn]; exact hm9
      have hks : ∀ x, x < mm → (Mem.keptI S n)[x]? = some (Mem.layI (Mem.keptI S n) x) := fun x hx => by unfold Mem.layI; rw [List.getElem?_eq_getElem (by rw [← hjn, hm9]; exact hx)]; rfl
      have hsn : ∀ x, x < mm → snN (S.filter fun a => !Mem.gone S a) x = snN S (Mem.layI (Mem.keptI S n) x) := fun x hx => by rw [← hmap]; unfold snN; rw [List.getElem?_map, hks x hx]; rfl
      have hlt9 : ∀ x, x < mm → Mem.layI (Mem.keptI S n) x < n := fun x hx => Mem.kept_lt (List.mem_of_getElem? (hks x hx))
      rw [hfl]
      have hsz := (e1.size)
      exact ⟨rfl, fun x => fb (Mem.layI (Mem.keptI S n) x), fun x => fc (Mem.layI (Mem.keptI S n) x), ⟨hfl, (Nat.lt_of_lt_of_le hlq (Nat.le_trans hs6 (Nat.le_trans hs8 hs21))), fun x hx => by unfold slv; rw [hsn x hx]; exact ((Ext.refl _).cell (hR8 x hx).1), fun x hx => by rw [hsn x hx]; exact (hS.nats _ (hlt9 x hx)).ext e0⟩, e0, e1⟩
set_option maxRecDepth 1000000 in
set_option maxHeartbeats 4000000 in
theorem IndexN_c (B : Nat) (w : World) : Calls Try.prog 57 #[.slice none 0 0, .func (.func 40) #[] #[.pointer (some ⟨B, 0, none⟩)]] w fun e w' => e = .returned (.int .i64 (-1)) ∧ Ext w w' := by
  refine calls_cw 19 [(1, .func (.func 40) #[] #[.pointer (some ⟨B, 0, none⟩)]), (0, .slice none 0 0)] Try.func57 rfl Try.ntmps57 (by kernel_rfl) (by kernel_rfl) (fun L => ?_)
  have hE : Ext w w := Ext.refl w
  refine cw_seq ?_
  refine cw_plain ?_
  refine pT (.int .i64 0) ?_
  refine pl_nil ?_
  refine qw_then ?_
  refine cw_seq ?_
  refine cw_seq ?_
  refine cw_plain ?_
  refine pT (.slice none 0 0) ?_
  refine pT (.int .i64 0) ?_
  refine pT (.int .i64 0) ?_
  refine pl_nil ?_
  refine qw_then ?_
  refine cw_block ?_
  refine cw_loop [0, 1, 7, 8] (fun ws' wr m => ∃ i : Nat, ws' = [(0, .slice none 0 0), (1, .func (.func 40) #[] #[.pointer (some ⟨B, 0, none⟩)]), (7, .int .i64 0), (8, .int .i64 (((i : Nat) : Int) : Int))] ∧ m = 0 - i ∧ w.heap.size ≤ wr.heap.size ∧ Ext w wr ∧ i ≤ 0) (ws0 := [(0, .slice none 0 0), (1, .func (.func 40) #[] #[.pointer (some ⟨B, 0, none⟩)]), (7, .int .i64 0), (8, .int .i64 0)]) (by kernel_rfl) _ ⟨0, rfl, rfl, Nat.le_refl _, hE, Nat.le_refl _⟩ ?_
  clear hE
  rintro m7 L ws w6 ⟨i, rfl, rfl, hs5, hE, hi⟩
  refine cw_seq ?_
  refine cw_plain ?_
  refine pl_take (.bool false) rfl (by kernel_rfl) (by kernel_rfl) (by kernel_rfl) (ev_ndec (show _ = Result.ok (Next.value (Value.bool (decide ((((i : Nat) : Int) : Int) < (0 : Int))))) _ from by kernel_rfl) (by omega)) ?_
  refine pl_nil ?_
  refine qw_then ?_
  refine cw_seq ?_
  refine cw_f (by kernel_rfl) ?_
  refine cw_exit ?_
  refine qw_then_exit ?_
  refine qw_then_exit ?_
  refine qw_block_out ?_
  refine qw_then ?_
  refine cw_seq ?_
  refine cw_plain ?_
  refine pT (.int .i64 (-1 : Int)) ?_
  refine pl_nil ?_
  refine qw_then ?_
  refine cw_ret ?_
  refine qw_ret [.int .i64 (-1 : Int)] rfl ⟨(by kernel_rfl), trivial⟩ ?_
  exact ⟨rfl, hE⟩
set_option maxRecDepth 1000000 in
set_option maxHeartbeats 4000000 in
theorem DeleteN_c (B : Nat) (w : World) : Calls Try.prog 38 #[.slice none 0 0, .func (.func 40) #[] #[.pointer (some ⟨B, 0, none⟩)]] w fun e w' => e = .returned (.slice none 0 0) ∧ Ext w w' := by
  refine calls_cw 42 [(1, .func (.func 40) #[] #[.pointer (some ⟨B, 0, none⟩)]), (0, .slice none 0 0)] Try.func38 rfl Try.ntmps38 (by kernel_rfl) (by kernel_rfl) (fun L => ?_)
  have hE : Ext w w := Ext.refl w
  refine cw_seq ?_
  refine cw_plain ?_
  refine pT (.slice none 0 0) ?_
  refine pl_nil ?_
  refine qw_then ?_
  refine cw_seq ?_
  refine cw_plain ?_
  refine pT (.slice none 0 0) ?_
  refine pT (.func (.func 40) #[] #[.pointer (some ⟨B, 0, none⟩)]) ?_
  refine pl_step rfl (by kernel_rfl) (by kernel_rfl) (by kernel_rfl) (sn_call (f := 57) (args := #[.slice none 0 0, .func (.func 40) #[] #[.pointer (some ⟨B, 0, none⟩)]]) (by kernel_rfl) ((IndexN_c _ _).mono ?_))
  rintro e w5 ⟨rfl, hb⟩
  replace hE := hE.trans hb
  have hs6 := hb.size
  clear hb
  refine ⟨_, rfl, ?_⟩
  refine pT (.int .i64 (-1 : Int)) ?_
  refine pl_nil ?_
  refine qw_then ?_
  refine cw_seq ?_
  refine cw_seq ?_
  refine cw_plain ?_
  refine pT (.int .i64 (-1 : Int)) ?_
  refine pT (.bool true) ?_
  refine pl_nil ?_
  refine qw_then ?_
  refine cw_t (by kernel_rfl) ?_
  refine cw_seq ?_
  refine cw_plain ?_
  refine pT (.slice none 0 0) ?_
  refine pT (.slice none 0 0) ?_
  refine pl_nil ?_
  refine qw_then ?_
  refine cw_ret ?_
  refine qw_then_ret ?_
  refine qw_ret [.slice none 0 0] rfl ⟨(by kernel_rfl), trivial⟩ ?_
  exact ⟨rfl, hE⟩

end Go.Proofs.Ytnbjjddfcondlaa
