/- Part 4 of what the proof of MemoryMatchesReference stands on. -/
import Derived.Test.YtnbjjddfcondlaaV3MemoryMatchesReference
import Derived.Laws.StructEq
import Derived.Test.YtnbjjddfcondlaaRows
import Derived.ProofKit
import Derived.OpenShut
import Derived.ChangeOld
import Derived.Deep.Slices
import Derived.SizedLaws
import Derived.Handed
/- Contract of package memory: Rows. -/
namespace Go.Proofs.Ytnbjjddfcondlaa
open Go.RowKit

namespace Mem
def begN (l : List St) (j : Nat) : Int := (begs l)[j]?.getD 0
theorem begN_at {l : List St} {j : Nat} (h : j < (begs l).length) : (begs l)[j]? = some (begN l j) := by unfold begN; rw [List.getElem?_eq_getElem h]; rfl
theorem sets_next {l : List St} {j : Nat} (h : j < (begs l).length) : ((begs l).take (j + 1)).map (alive l) = ((begs l).take j).map (alive l) ++ [alive l (begN l j)] := by
  rw [List.take_add_one, begN_at h, List.map_append]; rfl
theorem alive_ne {l : List St} (hu : ∀ x ∈ l, okU x) {j : Nat} (h : j < (begs l).length) : alive l (begN l j) ≠ [] := by
  obtain ⟨x, hx, e⟩ := mem_begs.1 (List.mem_of_getElem? (begN_at h))
  obtain ⟨i, hi⟩ := List.getElem?_of_mem hx
  have : i ∈ alive l (begN l j) := mem_alive.2 ⟨x, hi, live_iff.2 ⟨by omega, by have := (hu x hx).2; omega⟩⟩
  exact List.ne_nil_of_mem this
theorem begs_len : ∀ l : List St, (begs l).length ≤ l.length
  | [] => Nat.le_refl _
  | x :: l => by
    have h1 := insU_len x.fr (begs l)
    have h2 := begs_len l
    show (insU x.fr (begs l)).length ≤ _
    rw [List.length_cons]; omega
theorem sets_len (l : List St) : (sets l).length = (begs l).length := by unfold sets; simp
theorem sets_asc {l : List St} (h : l.length ≤ 24) : AscS (sets l) := fun s hs => by
  unfold sets at hs
  obtain ⟨t, _, rfl⟩ := List.mem_map.1 hs
  exact ⟨alive_asc l t, by have := alive_len l t; omega⟩
def rowsU (l : List St) : List (List Nat) := if okL l then rowsR l else []
theorem rows_filter (l : List St) : rowsR l = (sets l).filter fun a => !gone (sets l) a := rfl
theorem fr_next {l : List St} {i : Nat} (hi : i < l.length) : (l.take (i + 1)).map (·.fr) = (l.take i).map (·.fr) ++ [(stN l i).fr] := by rw [stN_take hi, List.map_append]; rfl
end Mem
/-- Ints that are only read any more, in a block of S. -/
def WrA (S : Nat → Prop) (w : World) (a : Option Addr) (n : Nat) (zs : List Int) : Prop := zs.length = n ∧ (n = 0 ∨ ∃ g, a = some ⟨g, 0, none⟩ ∧ S g ∧ ∀ (k : Nat) z, zs[k]? = some z → w.cell? ⟨g, k, none⟩ = some (.int .i64 z))
theorem WrA.ext {S : Nat → Prop} {w w' : World} {a : Option Addr} {n : Nat} {zs : List Int} (h : WrA S w a n zs) (hE : Ext w w') : WrA S w' a n zs := ⟨h.1, h.2.imp id fun ⟨g, ha, hs, hx⟩ => ⟨g, ha, hs, fun k z hz => hE.cell (hx k z hz)⟩⟩
theorem WrA.turn {S : Nat → Prop} {w X : World} {a : Option Addr} {n O : Nat} {zs : List Int} (h : WrA S w a n zs) (ho : Turns O w X) (hO : ¬ S O) : WrA S X a n zs := ⟨h.1, h.2.imp id fun ⟨g, ha, hs, hx⟩ => ⟨g, ha, hs, fun k z hz => ho.cell (fun e => hO (e ▸ hs)) (hx k z hz)⟩⟩
theorem WrA.grown {S : Nat → Prop} {w w' : World} {r : Option Nat} {a : Option Addr} {n : Nat} {zs : List Int} (h : WrA S w a n zs) (hg : w.grownBy w' r) (hr : ∀ g, S g → r ≠ some g) : WrA S w' a n zs := ⟨h.1, h.2.imp id fun ⟨g, ha, hs, hx⟩ => ⟨g, ha, hs, fun k z hz => hg.cell (hx k z hz) (fun e => hr g hs e.symm)⟩⟩
/-- What Rows returns. -/
def RowsRet (w : World) (S : List (List Nat)) (er : Int) (e : Ending) (w' : World) : Prop := ∃ (a : Option Addr) (k c : Nat), e = .returned (.tuple #[.slice a k c, .int .i64 er]) ∧ SetsAt w' a k S ∧ Ext w w'
theorem CloneN_c (n c : Nat) (w : World) : Calls Try.prog 39 #[.slice none n c] w fun e w' => e = .returned (.slice none 0 0) ∧ Ext w w' := (Go.Proofs.AnyE.slices_Clone_nil Try.clonIn n c w).mono fun _e _w' ⟨he, hw⟩ => ⟨he, hw ▸ Ext.refl _⟩
set_option maxRecDepth 1000000 in
set_option maxHeartbeats 4000000 in
theorem Rows_c {w0 : World} {a : Option Addr} {n : Nat} {l : List Mem.St} (c : Nat) (w : World) (h : StsAt w0 a n l) (e0 : Ext w0 w) : Calls Try.prog 15 #[.slice a n c] w (RowsRet w (Mem.rowsU l) (Mem.ansE (Mem.okL l))) := by
  have hln := h.1; have hmx := h.2.1
  have hs0 := e0.size
  obtain ⟨bs, os, ha, hbl, hx⟩ := h.parts
  refine calls_cw 48 [(0, .slice a n c)] Try.func15 rfl Try.ntmps15 (by kernel_rfl) (by kernel_rfl) (fun L => ?_)
  have hE : Ext w w := Ext.refl w
  refine cw_seq ?_
  refine cw_plain ?_
  refine pl_step rfl (by kernel_rfl) (by kernel_rfl) (by kernel_rfl) (sn_new (us := #[.slice a n c]) (t := 27) (by kernel_rfl) ?_)
  intro O5 X6 hO hOs hb hbx
  have hzO5 := hO; have hyO5 := hOs; clear hO hOs
  have bO5_0 : BoxAt X6 O5 0 (.slice a n c) := hbx 0 _ rfl
  clear hbx
  replace e0 := e0.trans hb
  replace hE := hE.trans hb
  have hs7 := hb.size
  clear hb
  have lt8 := bO5_0.lt
  refine pT (.slice none 0 0) ?_
  refine pT (.int .i64 0) ?_
  refine pl_nil ?_
  refine qw_then ?_
  refine cw_seq ?_
  refine cw_seq ?_
  refine cw_plain ?_
  refine pl_take (.slice a n c) rfl (by kernel_rfl) (by kernel_rfl) (by kernel_rfl) (ex_load rfl (by kernel_rfl) (ld27 (bO5_0.1))) ?_
  rcases Bool.eq_false_or_eq_true (Mem.okL l) with hb9 | hb9
  ·
    refine pl_step rfl (by kernel_rfl) (by kernel_rfl) (by kernel_rfl) (sn_call (f := 18) (args := #[.slice a n c]) (by kernel_rfl) ((Valid_r (l := l) (r := true) _ _ h e0 hb9).mono ?_))
    rintro e w10 ⟨rfl, hb⟩
    replace e0 := e0.trans hb
    replace hE := hE.trans hb
    replace bO5_0 := BoxAt.ext hb bO5_0
    have hs11 := hb.size
    clear hb
    refine ⟨_, rfl, ?_⟩
    refine pT (.bool false) ?_
    refine pl_nil ?_
    refine qw_then ?_
    refine cw_f (by kernel_rfl) ?_
    refine cw_skip ?_
    refine qw_then ?_
    refine cw_seq ?_
    refine cw_plain ?_
    refine pT (.func (.func 35) #[] #[.pointer (some ⟨O5, 0, none⟩)]) ?_
    refine pT (.func (.func 35) #[] #[.pointer (some ⟨O5, 0, none⟩)]) ?_
    refine pl_nil ?_
    refine qw_then ?_
    refine cw_seq ?_
    have hok9 := hb9
    have hll := Mem.okL_len hok9
    have hu := Mem.okL_u hok9
    refine cw_plain ?_
    refine pT (.slice none 0 0) ?_
    refine pl_nil ?_
    refine qw_then ?_
    refine cw_seq ?_
    refine cw_seq ?_
    refine cw_plain ?_
    refine pl_take (.slice a n c) rfl (by kernel_rfl) (by kernel_rfl) (by kernel_rfl) (ex_load rfl (by kernel_rfl) (ld27 (bO5_0.1))) ?_
    refine pT (.int .i64 (((n : Nat) : Int) : Int)) ?_
    refine pT (.int .i64 0) ?_
    refine pl_nil ?_
    refine qw_then ?_
    refine cw_block ?_
    refine cw_loop [4, 5, 15, 16, 17] (fun ws' wr m => ∃ i : Nat, ∃ a9 : Option Addr, ∃ c9 : Nat, ws' = [(4, .func (.func 35) #[] #[.pointer (some ⟨O5, 0, none⟩)]), (5, .slice a9 i c9), (15, .slice a n c), (16, .int .i64 (((n : Nat) : Int) : Int)), (17, .int .i64 (((i : Nat) : Int) : Int))] ∧ m = n - i ∧ w10.heap.size ≤ wr.heap.size ∧ Ext w0 wr ∧ Ext w wr ∧ BoxAt wr O5 0 (.slice a n c) ∧ OwnL intR w10.heap.size 3 1 (.slice a9 i c9) wr ((l.take i).map (·.fr)) ∧ i ≤ n ∧ ((l.take i).map (·.fr)).length = i) (ws0 := [(4, .func (.func 35) #[] #[.pointer (some ⟨O5, 0, none⟩)]), (5, .slice none 0 0), (15, .slice a n c), (16, .int .i64 (((n : Nat) : Int) : Int)), (17, .int .i64 0)]) (by kernel_rfl) _ ⟨0, none, 0, rfl, rfl, Nat.le_refl _, e0, hE, bO5_0, OwnL.nil _ _ _ _ _, Nat.zero_le _, rfl⟩ ?_
    clear bO5_0 e0 hE
    rintro m14 L ws w13 ⟨i, a9, c9, rfl, rfl, hs12, e0, hE, bO5_0, own9, hi, hbl9⟩
    by_cases hlt : i < n
    ·
      obtain rfl := ha (by omega)
      obtain ⟨q15, q16, q17, q18⟩ := hx i hlt
      have hbk9 := own9.lt
      refine cw_seq ?_
      refine cw_plain ?_
      refine pl_take (.bool true) rfl (by kernel_rfl) (by kernel_rfl) (by kernel_rfl) (ev_dec (show _ = Result.ok (Next.value (Value.bool (decide ((((i : Nat) : Int) : Int) < (((n : Nat) : Int) : Int))))) _ from by kernel_rfl) (by omega)) ?_
      refine pl_nil ?_
      refine qw_then ?_
      refine cw_seq ?_
      refine cw_t (by kernel_rfl) ?_
      refine cw_skip ?_
      refine qw_then ?_
      refine cw_seq ?_
      refine cw_block ?_
      refine cw_seq ?_
      refine cw_plain ?_
      refine pl_take (.pointer (some ⟨bs, os + i * 4, none⟩)) rfl (by kernel_rfl) (by kernel_rfl) (by kernel_rfl) (ex_index (p := .slice (some ⟨bs, os, none⟩) n c) (i := .int .i64 ((i : Nat) : Int)) rfl (by kernel_rfl) (by kernel_rfl) (ix27 (k := i) (by omega))) ?_
      refine pl_take (.agg #[.int .i64 ((stN l i).im : Int), .int .i64 ((stN l i).un : Int), .int .i64 ((stN l i).fr : Int), .int .i64 ((stN l i).to : Int)]) rfl (by kernel_rfl) (by kernel_rfl) (by kernel_rfl) (ex_load rfl (by kernel_rfl) (ld26 ((e0.cell q15)) ((e0.cell q16)) ((e0.cell q17)) ((e0.cell q18)))) ?_
      refine pl_step rfl (by kernel_rfl) (by kernel_rfl) (by kernel_rfl) (sn_new (us := #[.int .i64 0, .int .i64 0, .int .i64 0, .int .i64 0]) (t := 26) (by kernel_rfl) ?_)
      intro O19 X20 hO hOs hb hbx
      have hzO19 := hO; have hyO19 := hOs; clear hO hOs
      have bO19_0 : BoxAt X20 O19 0 (.int .i64 0) := hbx 0 _ rfl
      have bO19_1 : BoxAt X20 O19 1 (.int .i64 0) := hbx 1 _ rfl
      have bO19_2 : BoxAt X20 O19 2 (.int .i64 0) := hbx 2 _ rfl
      have bO19_3 : BoxAt X20 O19 3 (.int .i64 0) := hbx 3 _ rfl
      clear hbx
      replace e0 := e0.trans hb
      replace hE := hE.trans hb
      replace bO5_0 := BoxAt.ext hb bO5_0
      replace own9 := own9.ext hb
      have hs21 := hb.size
      clear hb
      have lt22 := bO19_0.lt
      refine pl_put rfl (by kernel_rfl) (by kernel_rfl) (sn_setK4 (O := O19) (j := 0) (v0 := .int .i64 ((stN l i).im : Int)) (v1 := .int .i64 ((stN l i).un : Int)) (v2 := .int .i64 ((stN l i).fr : Int)) (v3 := .int .i64 ((stN l i).to : Int)) (ex_store (p := .pointer (some ⟨O19, 0, none⟩)) (v := .agg #[.int .i64 ((stN l i).im : Int), .int .i64 ((stN l i).un : Int), .int .i64 ((stN l i).fr : Int), .int .i64 ((stN l i).to : Int)]) rfl (by kernel_rfl) (by kernel_rfl) (st26 bO19_0.1 bO19_0.2 bO19_1.1 bO19_1.2 bO19_2.1 bO19_2.2 bO19_3.1 bO19_3.2)) bO19_0 bO19_1 bO19_2 bO19_3 ?_)
      intro X23 ho hv0 hv1 hv2 hv3 hk
      replace e0 := ho.ext e0 (Nat.le_trans (Nat.le_trans hs0 (Nat.le_trans hs7 (Nat.le_trans hs11 hs12))) (Nat.le_of_eq hzO19))
      replace hE := ho.ext hE (Nat.le_trans (Nat.le_trans hs7 (Nat.le_trans hs11 hs12)) (Nat.le_of_eq hzO19))
      replace bO5_0 := ho.box (Nat.ne_of_gt (Nat.lt_of_lt_of_le lt8 (Nat.le_trans (Nat.le_trans hs11 hs12) (Nat.le_of_eq hzO19)))) bO5_0
      replace own9 := own9.turn ho (own_not2 hbk9 (Nat.le_of_eq hzO19)) (fun _ _ _ h => by rw [h.2]; exact fun b hb => by cases hb)
      have hs24 : X20.heap.size ≤ X23.heap.size := Nat.le_of_eq ho.size.symm
      clear ho hk bO19_0 bO19_1 bO19_2 bO19_3
      have bO19_0 := hv0; clear hv0
      have bO19_1 := hv1; clear hv1
      have bO19_2 := hv2; clear hv2
      have bO19_3 := hv3; clear hv3
      refine pl_nil ?_
      refine qw_then ?_
      refine cw_plain ?_
      refine pT (.slice a9 i c9) ?_
      refine pT (.pointer (some ⟨O19, 2, none⟩)) ?_
      refine pT (.pointer (some ⟨O19, 2, none⟩)) ?_
      refine pl_take (.int .i64 ((stN l i).fr : Int)) rfl (by kernel_rfl) (by kernel_rfl) (by kernel_rfl) (ex_load rfl (by kernel_rfl) (ld3 (bO19_2.1))) ?_
      refine pl_step rfl (by kernel_rfl) (by kernel_rfl) (by kernel_rfl) (sn_newS (us := #[.int .i64 ((stN l i).fr : Int)]) (t := 3) (k := 1) (c := 1) (by kernel_rfl) ?_)
      intro O25 X26 hO hOs hb hbx
      have hzO25 := hO; have hyO25 := hOs; clear hO hOs
      have bO25_0 : BoxAt X26 O25 0 (.int .i64 ((stN l i).fr : Int)) := hbx 0 _ rfl
      clear hbx
      replace e0 := e0.trans hb
      replace hE := hE.trans hb
      replace bO5_0 := BoxAt.ext hb bO5_0
      replace own9 := own9.ext hb
      replace bO19_0 := BoxAt.ext hb bO19_0
      replace bO19_1 := BoxAt.ext hb bO19_1
      replace bO19_2 := BoxAt.ext hb bO19_2
      replace bO19_3 := BoxAt.ext hb bO19_3
      have hs27 := hb.size
      clear hb
      have lt28 := bO25_0.lt
      have hbs39 := own9.base
      obtain ⟨g29, cap30, w31, hrun32, own33, hgr34, hgb35⟩ := own_app1k (P := Try.prog) (ty := 56) intT (own9) (Nat.le_trans hs12 (Nat.le_trans hs21 (Nat.le_trans hs24 hs27))) (k := i) hbl9 (O := O25) (c := 1) (x := (stN l i).fr) (d := [.int .i64 ((stN l i).fr : Int)]) (F := []) rfl (cells1 (bO25_0.1)) (by simp [Value.oneCell']) (⟨rfl, rfl⟩) (fun b hb => by cases hb) (by omega) (by omega)
      refine pl_step rfl (by kernel_rfl) (by kernel_rfl) (by kernel_rfl) (sn_eff (v := .slice (some ⟨g29, 0, none⟩) (i + 1) cap30) (w' := w31) (ex_append rfl (by kernel_rfl) (by kernel_rfl) hrun32) ?_)
      replace bO5_0 := BoxAt.grownR bO5_0 hgb35 (own_not hbs39 (Nat.lt_of_lt_of_le lt8 hs11))
      replace bO19_0 := BoxAt.grownR bO19_0 hgb35 (own_not2 hbk9 (Nat.le_of_eq hzO19))
      replace bO19_1 := BoxAt.grownR bO19_1 hgb35 (own_not2 hbk9 (Nat.le_of_eq hzO19))
      replace bO19_2 := BoxAt.grownR bO19_2 hgb35 (own_not2 hbk9 (Nat.le_of_eq hzO19))
      replace bO19_3 := BoxAt.grownR bO19_3 hgb35 (own_not2 hbk9 (Nat.le_of_eq hzO19))
      replace bO25_0 := BoxAt.grownR bO25_0 hgb35 (own_not2 hbk9 (Nat.le_trans (Nat.le_trans hs21 hs24) (Nat.le_of_eq hzO25)))
      replace e0 := hgr34.ext _ e0 (Nat.le_trans hs0 (Nat.le_trans hs7 hs11))
      replace hE := hgr34.ext _ hE (Nat.le_trans hs7 hs11)
      have hs36 := hgr34.size
      have hl37 := own33.base g29 rfl; have hh38 := own33.lt g29 rfl
      refine pT (.slice (some ⟨g29, 0, none⟩) (i + 1) cap30) ?_
      refine pl_nil ?_
      refine qw_block ?_
      refine qw_then ?_
      refine cw_clean [4, 5, 15, 16, 17] (ws' := [(4, .func (.func 35) #[] #[.pointer (some ⟨O5, 0, none⟩)]), (5, .slice (some ⟨g29, 0, none⟩) (i + 1) cap30), (15, .slice (some ⟨bs, os, none⟩) n c), (16, .int .i64 (((n : Nat) : Int) : Int)), (17, .int .i64 (((i : Nat) : Int) : Int))]) (by kernel_rfl) (fun L => ?_)
      refine cw_plain ?_
      refine pl_take (.int .i64 (((i + 1 : Nat) : Int) : Int)) rfl (by kernel_rfl) (by kernel_rfl) (by kernel_rfl) (ev_wrap (by kernel_rfl) (by omega) (by omega)) ?_
      refine pT (.int .i64 (((i + 1 : Nat) : Int) : Int)) ?_
      refine pl_nil ?_
      refine qw_round [4, 5, 15, 16, 17] (ws' := [(4, .func (.func 35) #[] #[.pointer (some ⟨O5, 0, none⟩)]), (5, .slice (some ⟨g29, 0, none⟩) (i + 1) cap30), (15, .slice (some ⟨bs, os, none⟩) n c), (16, .int .i64 (((n : Nat) : Int) : Int)), (17, .int .i64 (((i + 1 : Nat) : Int) : Int))]) (by kernel_rfl) _ ?_ ⟨(i + 1), (some ⟨g29, 0, none⟩), cap30, rfl, rfl, (Nat.le_trans hs12 (Nat.le_trans hs21 (Nat.le_trans hs24 (Nat.le_trans hs27 hs36)))), e0, hE, bO5_0, (by rw [Mem.fr_next (by omega)]; exact own33), by omega, (by rw [List.length_map, List.length_take]; omega)⟩
      omega
    ·
      have hin : i = n := by omega
      rw [show l.take i = l from List.take_of_length_le (by omega)] at own9 hbl9
      have hlt9 := own9.lt
      have hob9 := own9.base
      have hcap9 := own9.cap hbl9
      refine cw_seq ?_
      refine cw_plain ?_
      refine pl_take (.bool false) rfl (by kernel_rfl) (by kernel_rfl) (by kernel_rfl) (ev_ndec (show _ = Result.ok (Next.value (Value.bool (decide ((((i : Nat) : Int) : Int) < (((n : Nat) : Int) : Int))))) _ from by kernel_rfl) (by omega)) ?_
      refine pl_nil ?_
      refine qw_then ?_
      refine cw_seq ?_
      refine cw_f (by kernel_rfl) ?_
      refine cw_exit ?_
      refine qw_then_exit ?_
      refine qw_then_exit ?_
      refine qw_block_out ?_
      refine qw_then ?_
      refine cw_seq ?_
      refine cw_plain ?_
      refine pT (.slice a9 i c9) ?_
      refine pl_step rfl (by kernel_rfl) (by kernel_rfl) (by kernel_rfl) (sn_call (f := 36) (args := #[.slice a9 i c9]) (by kernel_rfl) ((SortI_c _ (own9) hbl9 (by omega)).mono ?_))
      rintro e w41 ⟨rfl, hP9⟩
      obtain ⟨zs, hzp, hzs, hIB, hU9, hz9⟩ := hP9
      replace bO5_0 := old_box hU9 bO5_0 (Nat.lt_of_lt_of_le lt8 hs11)
      replace e0 := hU9 _ e0 (Nat.le_trans hs0 (Nat.le_trans hs7 hs11))
      replace hE := hU9 _ hE (Nat.le_trans hs7 hs11)
      have hs42 := hz9
      have hX43 : Ext w41 w41 := Ext.refl _
      refine ⟨_, rfl, ?_⟩
      refine pl_nil ?_
      refine qw_then ?_
      refine cw_seq ?_
      refine cw_plain ?_
      refine pl_step rfl (by kernel_rfl) (by kernel_rfl) (by kernel_rfl) (sn_new (us := #[.slice none 0 0]) (t := 39) (by kernel_rfl) ?_)
      intro O44 X45 hO hOs hb hbx
      have hzO44 := hO; have hyO44 := hOs; clear hO hOs
      have bO44_0 : BoxAt X45 O44 0 (.slice none 0 0) := hbx 0 _ rfl
      clear hbx
      replace e0 := e0.trans hb
      replace hE := hE.trans hb
      replace hX43 := hX43.trans hb
      replace bO5_0 := BoxAt.ext hb bO5_0
      have hs46 := hb.size
      clear hb
      have lt47 := bO44_0.lt
      refine pl_nil ?_
      refine qw_then ?_
      refine cw_seq ?_
      refine cw_seq ?_
      refine cw_plain ?_
      refine pT (.slice a9 i c9) ?_
      have hbx9 := bO44_0
      have hcb9 := Mem.compact_begs hzp hzs
      have hbl := Mem.begs_len l
      refine pl_step rfl (by kernel_rfl) (by kernel_rfl) (by kernel_rfl) (sn_call (f := 37) (args := #[.slice a9 i c9]) (by kernel_rfl) ((CompactI_c _ (hIB.ext hX43) (hin ▸ hcap9) (by omega) hcb9).mono ?_))
      rintro e w48 ⟨rfl, hP8⟩
      obtain ⟨⟨hIC, hU8, hz8⟩, hbo⟩ := hP8
      replace bO5_0 := old_box hU8 bO5_0 (Nat.lt_of_lt_of_le lt8 hs11)
      replace e0 := hU8 _ e0 (Nat.le_trans hs0 (Nat.le_trans hs7 hs11))
      replace hE := hU8 _ hE (Nat.le_trans hs7 hs11)
      have hs49 := hz8
      have hbx8 := hbo _ _ _ (fun g hg => Nat.ne_of_lt (Nat.lt_of_lt_of_le (hlt9 g (by rw [hg]; rfl)) (Nat.le_trans hs42 (Nat.le_of_eq hzO44)))) hbx9
      have hWl : WrA (fun k => k ≠ O44 ∧ k < w48.heap.size) w48 a9 (Mem.begs l).length (Mem.begs l) := ⟨hIC.1, hIC.2.imp id fun ⟨g, ha, _, hx⟩ => ⟨g, ha, ⟨Nat.ne_of_lt (Nat.lt_of_lt_of_le (hlt9 g (by rw [ha]; rfl)) (Nat.le_trans hs42 (Nat.le_of_eq hzO44))), Nat.lt_of_lt_of_le (hlt9 g (by rw [ha]; rfl)) (Nat.le_trans hs42 (Nat.le_trans hs46 hs49))⟩, fun k z hz => (hx k z hz).1⟩⟩
      refine ⟨_, rfl, ?_⟩
      refine pT (.int .i64 ((((Mem.begs l).length : Nat) : Int) : Int)) ?_
      refine pT (.int .i64 0) ?_
      refine pl_nil ?_
      refine qw_then ?_
      refine cw_block ?_
      refine cw_loop [4, 8, 31, 32, 33] (fun ws' wr m => ∃ j : Nat, ∃ aq9 : Option Addr, ∃ cs : Nat, ws' = [(4, .func (.func 35) #[] #[.pointer (some ⟨O5, 0, none⟩)]), (8, .pointer (some ⟨O44, 0, none⟩)), (31, .slice a9 ((Mem.begs l).length) c9), (32, .int .i64 ((((Mem.begs l).length : Nat) : Int) : Int)), (33, .int .i64 (((j : Nat) : Int) : Int))] ∧ m = (Mem.begs l).length - j ∧ w48.heap.size ≤ wr.heap.size ∧ Ext w0 wr ∧ Ext w wr ∧ BoxAt wr O5 0 (.slice a n c) ∧ WrA (fun k => k ≠ O44 ∧ k < w48.heap.size) wr a9 ((Mem.begs l).length) ((Mem.begs l)) ∧ BoxAt wr O44 0 (.slice aq9 j cs) ∧ OwnL ((freshR w48.heap.size setR)) w48.heap.size 56 1 (.slice aq9 j cs) wr (((Mem.begs l).take j).map (Mem.alive l)) ∧ j ≤ (Mem.begs l).length ∧ (((Mem.begs l).take j).map (Mem.alive l)).length = j ∧ (j = 0 → aq9 = none)) (ws0 := [(4, .func (.func 35) #[] #[.pointer (some ⟨O5, 0, none⟩)]), (8, .pointer (some ⟨O44, 0, none⟩)), (31, .slice a9 ((Mem.begs l).length) c9), (32, .int .i64 ((((Mem.begs l).length : Nat) : Int) : Int)), (33, .int .i64 0)]) (by kernel_rfl) _ ⟨0, none, 0, rfl, rfl, Nat.le_refl _, e0, hE, bO5_0, hWl, hbx8, OwnL.nil _ _ _ _ _, Nat.zero_le _, rfl, (fun _ => rfl)⟩ ?_
      clear bO5_0 hbx8 hWl e0 hE
      rintro m52 L ws w51 ⟨j, aq9, cs, rfl, rfl, hs50, e0, hE, bO5_0, hWl, b9, os9, hj, hsl9, hz0⟩
      by_cases hlt : j < (Mem.begs l).length
      ·
        obtain ⟨g9, rfl, hgS, hgx⟩ := hWl.2.resolve_left (by omega)
        have hbg := hgx j _ (Mem.begN_at hlt)
        have hng9 := Lib.hid hgS.1
        have hne9 := Mem.alive_ne hu hlt
        have hsn9 := Mem.sets_next hlt
        have hbk9 := os9.lt
        refine cw_seq ?_
        refine cw_plain ?_
        refine pl_take (.bool true) rfl (by kernel_rfl) (by kernel_rfl) (by kernel_rfl) (ev_dec (show _ = Result.ok (Next.value (Value.bool (decide ((((j : Nat) : Int) : Int) < ((((Mem.begs l).length : Nat) : Int) : Int))))) _ from by kernel_rfl) (by omega)) ?_
        refine pl_nil ?_
        refine qw_then ?_
        refine cw_seq ?_
        refine cw_t (by kernel_rfl) ?_
        refine cw_skip ?_
        refine qw_then ?_
        refine cw_seq ?_
        refine cw_block ?_
        refine cw_seq ?_
        refine cw_plain ?_
        refine pl_take (.pointer (some ⟨g9, j, none⟩)) rfl (by kernel_rfl) (by kernel_rfl) (by kernel_rfl) (ex_index (p := .slice (some ⟨g9, 0, none⟩) ((Mem.begs l).length) c9) (i := .int .i64 ((j : Nat) : Int)) rfl (by kernel_rfl) (by kernel_rfl) (ix56z (k := j) (by omega))) ?_
        refine pl_take (.int .i64 (Mem.begN l j : Int)) rfl (by kernel_rfl) (by kernel_rfl) (by kernel_rfl) (ex_load rfl (by kernel_rfl) (ld3 (hbg))) ?_
        refine pT (.int .i64 (Mem.begN l j : Int)) ?_
        refine pl_nil ?_
        refine qw_then ?_
        refine cw_draw [(some 37, [8], []), (some 38, [4], []), (some 39, [10], []), (some 40, [38, 39], [1, 2]), (some 41, [40], [3]), (some 42, [37, 41], [0, 4, 3]), (none, [8, 42], [5, 5, 0, 1, 2, 3, 4, 5])] (fun w' => True) (by kernel_rfl) (by kernel_rfl) (by kernel_rfl) (by kernel_rfl) ((calm_block (calm_then (calm_then (calm_block (calm_then calm_body)))))) (trivial) (fun ops Q X53 hb hL hR hK => ?_)
        replace e0 := e0.trans hb
        replace hE := hE.trans hb
        replace bO5_0 := BoxAt.ext hb bO5_0
        replace hWl := hWl.ext hb
        replace b9 := BoxAt.ext hb b9
        replace os9 := os9.ext hb
        replace hbg := hb.cell hbg
        have hs54 := hb.size
        clear hb
        refine wd_take 1 (.func (.func 35) #[] #[.pointer (some ⟨O5, 0, none⟩)]) hR rfl (by kernel_rfl) rfl (by kernel_rfl) (fun w _ => by kernel_rfl) (trivial) ?_
        refine wd_take 2 (.int .i64 (Mem.begN l j : Int)) hR rfl (by kernel_rfl) rfl (by kernel_rfl) (fun w _ => by kernel_rfl) (trivial) ?_
        refine wd_two 0 3 hR rfl rfl (by kernel_rfl) (by kernel_rfl) (by kernel_rfl) (by kernel_rfl) ?_ ?_
        ·
          refine sn_eff (v := .slice aq9 j cs) (w' := X53) (ex_load rfl (by kernel_rfl) (ld39 (b9.1))) ⟨trivial, ?_⟩
          refine wd_step 3 hR rfl (by kernel_rfl) (by kernel_rfl) (by kernel_rfl) (sn_call (f := 35) (args := #[.int .i64 (Mem.begN l j : Int), .pointer (some ⟨O5, 0, none⟩)]) (by kernel_rfl) ((stored_c (Mem.begN l j) _ h (by omega) e0 (bO5_0.1) (Ext.refl _) hne9).mono ?_))
          rintro e w58 ⟨bs55, kk56, rfl, hn57, hnt9, hb⟩
          replace e0 := e0.trans hb
          replace hE := hE.trans hb
          replace bO5_0 := BoxAt.ext hb bO5_0
          replace hWl := hWl.ext hb
          replace b9 := BoxAt.ext hb b9
          replace os9 := os9.ext hb
          replace hbg := hb.cell hbg
          have hs59 := hb.size
          clear hb
          have hX60 : Ext w58 w58 := Ext.refl _
          refine ⟨_, rfl, trivial, ?_⟩
          refine wd_step 4 hR rfl (by kernel_rfl) (by kernel_rfl) (by kernel_rfl) (sn_newS (us := #[.slice (some ⟨bs55, 0, none⟩) ((Mem.alive l (Mem.begN l j)).length) kk56]) (t := 56) (k := 1) (c := 1) (by kernel_rfl) ?_)
          intro O61 X62 hO hOs hb hbx
          have hzO61 := hO; have hyO61 := hOs; clear hO hOs
          have bO61_0 : BoxAt X62 O61 0 (.slice (some ⟨bs55, 0, none⟩) ((Mem.alive l (Mem.begN l j)).length) kk56) := hbx 0 _ rfl
          clear hbx
          replace e0 := e0.trans hb
          replace hE := hE.trans hb
          replace hX60 := hX60.trans hb
          replace bO5_0 := BoxAt.ext hb bO5_0
          replace hWl := hWl.ext hb
          replace b9 := BoxAt.ext hb b9
          replace os9 := os9.ext hb
          replace hbg := hb.cell hbg
          have hs63 := hb.size
          clear hb
          have lt64 := bO61_0.lt
          refine ⟨trivial, ?_⟩
          have hbs75 := os9.base
          obtain ⟨g65, cap66, w67, hrun68, own69, hgr70, hgb71⟩ := own_app1k (P := Try.prog) (ty := 39) setT (os9) (Nat.le_trans hs50 (Nat.le_trans hs54 (Nat.le_trans hs59 hs63))) (k := j) hsl9 (O := O61) (c := 1) (x := Mem.alive l (Mem.begN l j)) (d := [.slice (some ⟨bs55, 0, none⟩) ((Mem.alive l (Mem.begN l j)).length) kk56]) (F := [bs55]) rfl (cells1 (bO61_0.1)) (by simp [Value.oneCell']) (⟨⟨_, _, rfl, (hnt9.ext hX60).2, hne9, rfl⟩, fresh1 (Nat.le_trans (Nat.le_trans hs50 hs54) hn57)⟩) (away_cons (own_not2 hbk9 (Nat.le_trans hs54 hn57)) (fun b hb => by cases hb)) (by omega) (by omega)
          refine wd_step 5 hR rfl (by kernel_rfl) (by kernel_rfl) (by kernel_rfl) (sn_eff (v := .slice (some ⟨g65, 0, none⟩) (j + 1) cap66) (w' := w67) (ex_append rfl (by kernel_rfl) (by kernel_rfl) hrun68) ?_)
          replace bO5_0 := BoxAt.grownR bO5_0 hgb71 (own_not hbs75 (Nat.lt_of_lt_of_le lt8 (Nat.le_trans hs11 (Nat.le_trans hs12 (Nat.le_trans hs42 (Nat.le_trans hs46 hs49))))))
          replace hWl := hWl.grown hgb71 (fun g hS e => absurd (hbs75 g e) (Nat.not_le_of_lt hS.2))
          replace b9 := BoxAt.grownR b9 hgb71 (own_not hbs75 (Nat.lt_of_lt_of_le lt47 hs49))
          replace bO61_0 := BoxAt.grownR bO61_0 hgb71 (own_not2 hbk9 (Nat.le_trans (Nat.le_trans hs54 hs59) (Nat.le_of_eq hzO61)))
          replace e0 := hgr70.ext _ e0 (Nat.le_trans hs0 (Nat.le_trans hs7 (Nat.le_trans hs11 (Nat.le_trans hs12 (Nat.le_trans hs42 (Nat.le_trans hs46 hs49))))))
          replace hE := hgr70.ext _ hE (Nat.le_trans hs7 (Nat.le_trans hs11 (Nat.le_trans hs12 (Nat.le_trans hs42 (Nat.le_trans hs46 hs49)))))
          have hs72 := hgr70.size
          refine ⟨trivial, ?_⟩
          have hl73 := own69.base g65 rfl; have hh74 := own69.lt g65 rfl
          refine wd_step 6 hR rfl (by kernel_rfl) (by kernel_rfl) (by kernel_rfl) (sn_set (O := O44) (j := 0) (v := .slice (some ⟨g65, 0, none⟩) (j + 1) cap66) (ex_store (p := .pointer (some ⟨O44, 0, none⟩)) (v := .slice (some ⟨g65, 0, none⟩) (j + 1) cap66) rfl (by kernel_rfl) (by kernel_rfl) (st39 b9.1 b9.2)) b9 ?_)
          intro X77 ho hv0 hk
          replace e0 := ho.ext e0 (Nat.le_trans (Nat.le_trans hs0 (Nat.le_trans hs7 (Nat.le_trans hs11 (Nat.le_trans hs12 hs42)))) (Nat.le_of_eq hzO44))
          replace hE := ho.ext hE (Nat.le_trans (Nat.le_trans hs7 (Nat.le_trans hs11 (Nat.le_trans hs12 hs42))) (Nat.le_of_eq hzO44))
          replace bO5_0 := ho.box (Nat.ne_of_gt (Nat.lt_of_lt_of_le lt8 (Nat.le_trans (Nat.le_trans hs11 (Nat.le_trans hs12 hs42)) (Nat.le_of_eq hzO44)))) bO5_0
          replace hWl := hWl.turn ho (fun h => h.1 rfl)
          replace bO61_0 := ho.box (Nat.ne_of_lt (Nat.lt_of_lt_of_le lt47 (Nat.le_trans (Nat.le_trans hs49 (Nat.le_trans hs50 (Nat.le_trans hs54 hs59))) (Nat.le_of_eq hzO61)))) bO61_0
          replace own69 := own69.turn ho (own_not (own69.base) (Nat.lt_of_lt_of_le lt47 hs49)) (fresh_noF (Nat.lt_of_lt_of_le lt47 hs49))
          have hs78 : w67.heap.size ≤ X77.heap.size := Nat.le_of_eq ho.size.symm
          clear ho hk b9
          have b9 := hv0; clear hv0
          refine ⟨trivial, ?_⟩
          refine wd_end hL hR hK (by kernel_rfl) ?_
          refine qw_block ?_
          refine qw_then ?_
          refine cw_clean [4, 8, 31, 32, 33] (ws' := [(4, .func (.func 35) #[] #[.pointer (some ⟨O5, 0, none⟩)]), (8, .pointer (some ⟨O44, 0, none⟩)), (31, .slice (some ⟨g9, 0, none⟩) ((Mem.begs l).length) c9), (32, .int .i64 ((((Mem.begs l).length : Nat) : Int) : Int)), (33, .int .i64 (((j : Nat) : Int) : Int))]) (by kernel_rfl) (fun L => ?_)
          refine cw_plain ?_
          refine pl_take (.int .i64 (((j + 1 : Nat) : Int) : Int)) rfl (by kernel_rfl) (by kernel_rfl) (by kernel_rfl) (ev_wrap (by kernel_rfl) (by omega) (by omega)) ?_
          refine pT (.int .i64 (((j + 1 : Nat) : Int) : Int)) ?_
          refine pl_nil ?_
          refine qw_round [4, 8, 31, 32, 33] (ws' := [(4, .func (.func 35) #[] #[.pointer (some ⟨O5, 0, none⟩)]), (8, .pointer (some ⟨O44, 0, none⟩)), (31, .slice (some ⟨g9, 0, none⟩) ((Mem.begs l).length) c9), (32, .int .i64 ((((Mem.begs l).length : Nat) : Int) : Int)), (33, .int .i64 (((j + 1 : Nat) : Int) : Int))]) (by kernel_rfl) _ ?_ ⟨(j + 1), (some ⟨g65, 0, none⟩), cap66, rfl, rfl, (Nat.le_trans hs50 (Nat.le_trans hs54 (Nat.le_trans hs59 (Nat.le_trans hs63 (Nat.le_trans hs72 hs78))))), e0, hE, bO5_0, hWl, b9, (by rw [hsn9]; exact own69), by omega, (by rw [hsn9, List.length_append, hsl9]; rfl), (fun h => by omega)⟩
          omega
        ·
          refine sn_call (f := 35) (args := #[.int .i64 (Mem.begN l j : Int), .pointer (some ⟨O5, 0, none⟩)]) (by kernel_rfl) ((stored_c (Mem.begN l j) _ h (by omega) e0 (bO5_0.1) (Ext.refl _) hne9).mono ?_)
          rintro e w82 ⟨bs79, kk80, rfl, hn81, hnt9, hb⟩
          replace e0 := e0.trans hb
          replace hE := hE.trans hb
          replace bO5_0 := BoxAt.ext hb bO5_0
          replace hWl := hWl.ext hb
          replace b9 := BoxAt.ext hb b9
          replace os9 := os9.ext hb
          replace hbg := hb.cell hbg
          have hs83 := hb.size
          clear hb
          have hX84 : Ext w82 w82 := Ext.refl _
          refine ⟨_, rfl, trivial, ?_⟩
          refine wd_two 0 4 hR rfl rfl (by kernel_rfl) (by kernel_rfl) (by kernel_rfl) (by kernel_rfl) ?_ ?_
          ·
            refine sn_eff (v := .slice aq9 j cs) (w' := w82) (ex_load rfl (by kernel_rfl) (ld39 (b9.1))) ⟨trivial, ?_⟩
            refine wd_step 4 hR rfl (by kernel_rfl) (by kernel_rfl) (by kernel_rfl) (sn_newS (us := #[.slice (some ⟨bs79, 0, none⟩) ((Mem.alive l (Mem.begN l j)).length) kk80]) (t := 56) (k := 1) (c := 1) (by kernel_rfl) ?_)
            intro O85 X86 hO hOs hb hbx
            have hzO85 := hO; have hyO85 := hOs; clear hO hOs
            have bO85_0 : BoxAt X86 O85 0 (.slice (some ⟨bs79, 0, none⟩) ((Mem.alive l (Mem.begN l j)).length) kk80) := hbx 0 _ rfl
            clear hbx
            replace e0 := e0.trans hb
            replace hE := hE.trans hb
            replace hX84 := hX84.trans hb
            replace bO5_0 := BoxAt.ext hb bO5_0
            replace hWl := hWl.ext hb
            replace b9 := BoxAt.ext hb b9
            replace os9 := os9.ext hb
            replace hbg := hb.cell hbg
            have hs87 := hb.size
            clear hb
            have lt88 := bO85_0.lt
            refine ⟨trivial, ?_⟩
            have hbs99 := os9.base
            obtain ⟨g89, cap90, w91, hrun92, own93, hgr94, hgb95⟩ := own_app1k (P := Try.prog) (ty := 39) setT (os9) (Nat.le_trans hs50 (Nat.le_trans hs54 (Nat.le_trans hs83 hs87))) (k := j) hsl9 (O := O85) (c := 1) (x := Mem.alive l (Mem.begN l j)) (d := [.slice (some ⟨bs79, 0, none⟩) ((Mem.alive l (Mem.begN l j)).length) kk80]) (F := [bs79]) rfl (cells1 (bO85_0.1)) (by simp [Value.oneCell']) (⟨⟨_, _, rfl, (hnt9.ext hX84).2, hne9, rfl⟩, fresh1 (Nat.le_trans (Nat.le_trans hs50 hs54) hn81)⟩) (away_cons (own_not2 hbk9 (Nat.le_trans hs54 hn81)) (fun b hb => by cases hb)) (by omega) (by omega)
            refine wd_step 5 hR rfl (by kernel_rfl) (by kernel_rfl) (by kernel_rfl) (sn_eff (v := .slice (some ⟨g89, 0, none⟩) (j + 1) cap90) (w' := w91) (ex_append rfl (by kernel_rfl) (by kernel_rfl) hrun92) ?_)
            replace bO5_0 := BoxAt.grownR bO5_0 hgb95 (own_not hbs99 (Nat.lt_of_lt_of_le lt8 (Nat.le_trans hs11 (Nat.le_trans hs12 (Nat.le_trans hs42 (Nat.le_trans hs46 hs49))))))
            replace hWl := hWl.grown hgb95 (fun g hS e => absurd (hbs99 g e) (Nat.not_le_of_lt hS.2))
            replace b9 := BoxAt.grownR b9 hgb95 (own_not hbs99 (Nat.lt_of_lt_of_le lt47 hs49))
            replace bO85_0 := BoxAt.grownR bO85_0 hgb95 (own_not2 hbk9 (Nat.le_trans (Nat.le_trans hs54 hs83) (Nat.le_of_eq hzO85)))
            replace e0 := hgr94.ext _ e0 (Nat.le_trans hs0 (Nat.le_trans hs7 (Nat.le_trans hs11 (Nat.le_trans hs12 (Nat.le_trans hs42 (Nat.le_trans hs46 hs49))))))
            replace hE := hgr94.ext _ hE (Nat.le_trans hs7 (Nat.le_trans hs11 (Nat.le_trans hs12 (Nat.le_trans hs42 (Nat.le_trans hs46 hs49)))))
            have hs96 := hgr94.size
            refine ⟨trivial, ?_⟩
            have hl97 := own93.base g89 rfl; have hh98 := own93.lt g89 rfl
            refine wd_step 6 hR rfl (by kernel_rfl) (by kernel_rfl) (by kernel_rfl) (sn_set (O := O44) (j := 0) (v := .slice (some ⟨g89, 0, none⟩) (j + 1) cap90) (ex_store (p := .pointer (some ⟨O44, 0, none⟩)) (v := .slice (some ⟨g89, 0, none⟩) (j + 1) cap90) rfl (by kernel_rfl) (by kernel_rfl) (st39 b9.1 b9.2)) b9 ?_)
            intro X101 ho hv0 hk
            replace e0 := ho.ext e0 (Nat.le_trans (Nat.le_trans hs0 (Nat.le_trans hs7 (Nat.le_trans hs11 (Nat.le_trans hs12 hs42)))) (Nat.le_of_eq hzO44))
            replace hE := ho.ext hE (Nat.le_trans (Nat.le_trans hs7 (Nat.le_trans hs11 (Nat.le_trans hs12 hs42))) (Nat.le_of_eq hzO44))
            replace bO5_0 := ho.box (Nat.ne_of_gt (Nat.lt_of_lt_of_le lt8 (Nat.le_trans (Nat.le_trans hs11 (Nat.le_trans hs12 hs42)) (Nat.le_of_eq hzO44)))) bO5_0
            replace hWl := hWl.turn ho (fun h => h.1 rfl)
            replace bO85_0 := ho.box (Nat.ne_of_lt (Nat.lt_of_lt_of_le lt47 (Nat.le_trans (Nat.le_trans hs49 (Nat.le_trans hs50 (Nat.le_trans hs54 hs83))) (Nat.le_of_eq hzO85)))) bO85_0
            replace own93 := own93.turn ho (own_not (own93.base) (Nat.lt_of_lt_of_le lt47 hs49)) (fresh_noF (Nat.lt_of_lt_of_le lt47 hs49))
            have hs102 : w91.heap.size ≤ X101.heap.size := Nat.le_of_eq ho.size.symm
            clear ho hk b9
            have b9 := hv0; clear hv0
            refine ⟨trivial, ?_⟩
            refine wd_end hL hR hK (by kernel_rfl) ?_
            refine qw_block ?_
            refine qw_then ?_
            refine cw_clean [4, 8, 31, 32, 33] (ws' := [(4, .func (.func 35) #[] #[.pointer (some ⟨O5, 0, none⟩)]), (8, .pointer (some ⟨O44, 0, none⟩)), (31, .slice (some ⟨g9, 0, none⟩) ((Mem.begs l).length) c9), (32, .int .i64 ((((Mem.begs l).length : Nat) : Int) : Int)), (33, .int .i64 (((j : Nat) : Int) : Int))]) (by kernel_rfl) (fun L => ?_)
            refine cw_plain ?_
            refine pl_take (.int .i64 (((j + 1 : Nat) : Int) : Int)) rfl (by kernel_rfl) (by kernel_rfl) (by kernel_rfl) (ev_wrap (by kernel_rfl) (by omega) (by omega)) ?_
            refine pT (.int .i64 (((j + 1 : Nat) : Int) : Int)) ?_
            refine pl_nil ?_
            refine qw_round [4, 8, 31, 32, 33] (ws' := [(4, .func (.func 35) #[] #[.pointer (some ⟨O5, 0, none⟩)]), (8, .pointer (some ⟨O44, 0, none⟩)), (31, .slice (some ⟨g9, 0, none⟩) ((Mem.begs l).length) c9), (32, .int .i64 ((((Mem.begs l).length : Nat) : Int) : Int)), (33, .int .i64 (((j + 1 : Nat) : Int) : Int))]) (by kernel_rfl) _ ?_ ⟨(j + 1), (some ⟨g89, 0, none⟩), cap90, rfl, rfl, (Nat.le_trans hs50 (Nat.le_trans hs54 (Nat.le_trans hs83 (Nat.le_trans hs87 (Nat.le_trans hs96 hs102))))), e0, hE, bO5_0, hWl, b9, (by rw [hsn9]; exact own93), by omega, (by rw [hsn9, List.length_append, hsl9]; rfl), (fun h => by omega)⟩
            omega
          ·
            refine sn_newS (us := #[.slice (some ⟨bs79, 0, none⟩) ((Mem.alive l (Mem.begN l j)).length) kk80]) (t := 56) (k := 1) (c := 1) (by kernel_rfl) ?_
            intro O103 X104 hO hOs hb hbx
            have hzO103 := hO; have hyO103 := hOs; clear hO hOs
            have bO103_0 : BoxAt X104 O103 0 (.slice (some ⟨bs79, 0, none⟩) ((Mem.alive l (Mem.begN l j)).length) kk80) := hbx 0 _ rfl
            clear hbx
            replace e0 := e0.trans hb
            replace hE := hE.trans hb
            replace hX84 := hX84.trans hb
            replace bO5_0 := BoxAt.ext hb bO5_0
            replace hWl := hWl.ext hb
            replace b9 := BoxAt.ext hb b9
            replace os9 := os9.ext hb
            replace hbg := hb.cell hbg
            have hs105 := hb.size
            clear hb
            have lt106 := bO103_0.lt
            refine ⟨trivial, ?_⟩
            refine wd_step 0 hR rfl (by kernel_rfl) (by kernel_rfl) (by kernel_rfl) (sn_eff (v := .slice aq9 j cs) (w' := X104) (ex_load rfl (by kernel_rfl) (ld39 (b9.1))) ⟨trivial, ?_⟩)
            have hbs117 := os9.base
            obtain ⟨g107, cap108, w109, hrun110, own111, hgr112, hgb113⟩ := own_app1k (P := Try.prog) (ty := 39) setT (os9) (Nat.le_trans hs50 (Nat.le_trans hs54 (Nat.le_trans hs83 hs105))) (k := j) hsl9 (O := O103) (c := 1) (x := Mem.alive l (Mem.begN l j)) (d := [.slice (some ⟨bs79, 0, none⟩) ((Mem.alive l (Mem.begN l j)).length) kk80]) (F := [bs79]) rfl (cells1 (bO103_0.1)) (by simp [Value.oneCell']) (⟨⟨_, _, rfl, (hnt9.ext hX84).2, hne9, rfl⟩, fresh1 (Nat.le_trans (Nat.le_trans hs50 hs54) hn81)⟩) (away_cons (own_not2 hbk9 (Nat.le_trans hs54 hn81)) (fun b hb => by cases hb)) (by omega) (by omega)
            refine wd_step 5 hR rfl (by kernel_rfl) (by kernel_rfl) (by kernel_rfl) (sn_eff (v := .slice (some ⟨g107, 0, none⟩) (j + 1) cap108) (w' := w109) (ex_append rfl (by kernel_rfl) (by kernel_rfl) hrun110) ?_)
            replace bO5_0 := BoxAt.grownR bO5_0 hgb113 (own_not hbs117 (Nat.lt_of_lt_of_le lt8 (Nat.le_trans hs11 (Nat.le_trans hs12 (Nat.le_trans hs42 (Nat.le_trans hs46 hs49))))))
            replace hWl := hWl.grown hgb113 (fun g hS e => absurd (hbs117 g e) (Nat.not_le_of_lt hS.2))
            replace b9 := BoxAt.grownR b9 hgb113 (own_not hbs117 (Nat.lt_of_lt_of_le lt47 hs49))
            replace bO103_0 := BoxAt.grownR bO103_0 hgb113 (own_not2 hbk9 (Nat.le_trans (Nat.le_trans hs54 hs83) (Nat.le_of_eq hzO103)))
            replace e0 := hgr112.ext _ e0 (Nat.le_trans hs0 (Nat.le_trans hs7 (Nat.le_trans hs11 (Nat.le_trans hs12 (Nat.le_trans hs42 (Nat.le_trans hs46 hs49))))))
            replace hE := hgr112.ext _ hE (Nat.le_trans hs7 (Nat.le_trans hs11 (Nat.le_trans hs12 (Nat.le_trans hs42 (Nat.le_trans hs46 hs49)))))
            have hs114 := hgr112.size
            refine ⟨trivial, ?_⟩
            have hl115 := own111.base g107 rfl; have hh116 := own111.lt g107 rfl
            refine wd_step 6 hR rfl (by kernel_rfl) (by kernel_rfl) (by kernel_rfl) (sn_set (O := O44) (j := 0) (v := .slice (some ⟨g107, 0, none⟩) (j + 1) cap108) (ex_store (p := .pointer (some ⟨O44, 0, none⟩)) (v := .slice (some ⟨g107, 0, none⟩) (j + 1) cap108) rfl (by kernel_rfl) (by kernel_rfl) (st39 b9.1 b9.2)) b9 ?_)
            intro X119 ho hv0 hk
            replace e0 := ho.ext e0 (Nat.le_trans (Nat.le_trans hs0 (Nat.le_trans hs7 (Nat.le_trans hs11 (Nat.le_trans hs12 hs42)))) (Nat.le_of_eq hzO44))
            replace hE := ho.ext hE (Nat.le_trans (Nat.le_trans hs7 (Nat.le_trans hs11 (Nat.le_trans hs12 hs42))) (Nat.le_of_eq hzO44))
            replace bO5_0 := ho.box (Nat.ne_of_gt (Nat.lt_of_lt_of_le lt8 (Nat.le_trans (Nat.le_trans hs11 (Nat.le_trans hs12 hs42)) (Nat.le_of_eq hzO44)))) bO5_0
            replace hWl := hWl.turn ho (fun h => h.1 rfl)
            replace bO103_0 := ho.box (Nat.ne_of_lt (Nat.lt_of_lt_of_le lt47 (Nat.le_trans (Nat.le_trans hs49 (Nat.le_trans hs50 (Nat.le_trans hs54 hs83))) (Nat.le_of_eq hzO103)))) bO103_0
            replace own111 := own111.turn ho (own_not (own111.base) (Nat.lt_of_lt_of_le lt47 hs49)) (fresh_noF (Nat.lt_of_lt_of_le lt47 hs49))
            have hs120 : w109.heap.size ≤ X119.heap.size := Nat.le_of_eq ho.size.symm
            clear ho hk b9
            have b9 := hv0; clear hv0
            refine ⟨trivial, ?_⟩
            refine wd_end hL hR hK (by kernel_rfl) ?_
            refine qw_block ?_
            refine qw_then ?_
            refine cw_clean [4, 8, 31, 32, 33] (ws' := [(4, .func (.func 35) #[] #[.pointer (some ⟨O5, 0, none⟩)]), (8, .pointer (some ⟨O44, 0, none⟩)), (31, .slice (some ⟨g9, 0, none⟩) ((Mem.begs l).length) c9), (32, .int .i64 ((((Mem.begs l).length : Nat) : Int) : Int)), (33, .int .i64 (((j : Nat) : Int) : Int))]) (by kernel_rfl) (fun L => ?_)
            refine cw_plain ?_
            refine pl_take (.int .i64 (((j + 1 : Nat) : Int) : Int)) rfl (by kernel_rfl) (by kernel_rfl) (by kernel_rfl) (ev_wrap (by kernel_rfl) (by omega) (by omega)) ?_
            refine pT (.int .i64 (((j + 1 : Nat) : Int) : Int)) ?_
            refine pl_nil ?_
            refine qw_round [4, 8, 31, 32, 33] (ws' := [(4, .func (.func 35) #[] #[.pointer (some ⟨O5, 0, none⟩)]), (8, .pointer (some ⟨O44, 0, none⟩)), (31, .slice (some ⟨g9, 0, none⟩) ((Mem.begs l).length) c9), (32, .int .i64 ((((Mem.begs l).length : Nat) : Int) : Int)), (33, .int .i64 (((j + 1 : Nat) : Int) : Int))]) (by kernel_rfl) _ ?_ ⟨(j + 1), (some ⟨g107, 0, none⟩), cap108, rfl, rfl, (Nat.le_trans hs50 (Nat.le_trans hs54 (Nat.le_trans hs83 (Nat.le_trans hs105 (Nat.le_trans hs114 hs120))))), e0, hE, bO5_0, hWl, b9, (by rw [hsn9]; exact own111), by omega, (by rw [hsn9, List.length_append, hsl9]; rfl), (fun h => by omega)⟩
            omega
      ·
        have hjn : j = (Mem.begs l).length := by omega
        rw [show (Mem.begs l).take j = Mem.begs l from List.take_of_length_le (by omega)] at os9 hsl9
        refine cw_seq ?_
        refine cw_plain ?_
        refine pl_take (.bool false) rfl (by kernel_rfl) (by kernel_rfl) (by kernel_rfl) (ev_ndec (show _ = Result.ok (Next.value (Value.bool (decide ((((j : Nat) : Int) : Int) < ((((Mem.begs l).length : Nat) : Int) : Int))))) _ from by kernel_rfl) (by omega)) ?_
        refine pl_nil ?_
        refine qw_then ?_
        refine cw_seq ?_
        refine cw_f (by kernel_rfl) ?_
        refine cw_exit ?_
        refine qw_then_exit ?_
        refine qw_then_exit ?_
        refine qw_block_out ?_
        refine qw_then ?_
        refine cw_seq ?_
        rcases Nat.eq_zero_or_pos j with h0 | h0
        ·
          obtain rfl := hz0 h0
          have hcs : cs = 0 ∨ True := .inr trivial
          refine cw_plain ?_
          refine pl_take (.slice none j cs) rfl (by kernel_rfl) (by kernel_rfl) (by kernel_rfl) (ex_load rfl (by kernel_rfl) (ld39 (b9.1))) ?_
          refine pl_step rfl (by kernel_rfl) (by kernel_rfl) (by kernel_rfl) (sn_call (f := 39) (args := #[.slice none j cs]) (by kernel_rfl) ((CloneN_c _ _ _).mono ?_))
          rintro e w121 ⟨rfl, hb⟩
          replace e0 := e0.trans hb
          replace hE := hE.trans hb
          replace bO5_0 := BoxAt.ext hb bO5_0
          replace hWl := hWl.ext hb
          replace b9 := BoxAt.ext hb b9
          replace os9 := os9.ext hb
          have hs122 := hb.size
          clear hb
          refine ⟨_, rfl, ?_⟩
          refine pT (.func (.func 40) #[] #[.pointer (some ⟨O44, 0, none⟩)]) ?_
          refine pl_step rfl (by kernel_rfl) (by kernel_rfl) (by kernel_rfl) (sn_call (f := 38) (args := #[.slice none 0 0, .func (.func 40) #[] #[.pointer (some ⟨O44, 0, none⟩)]]) (by kernel_rfl) ((DeleteN_c _ _).mono ?_))
          rintro e w123 ⟨rfl, hb⟩
          replace e0 := e0.trans hb
          replace hE := hE.trans hb
          replace bO5_0 := BoxAt.ext hb bO5_0
          replace hWl := hWl.ext hb
          replace b9 := BoxAt.ext hb b9
          replace os9 := os9.ext hb
          have hs124 := hb.size
          clear hb
          refine ⟨_, rfl, ?_⟩
          refine pT (.slice none 0 0) ?_
          refine pT (.int .i64 0) ?_
          refine pl_nil ?_
          refine qw_then ?_
          refine cw_ret ?_
          refine qw_ret [.slice none 0 0, .int .i64 0] rfl ⟨(by kernel_rfl), (by kernel_rfl), trivial⟩ ?_
          rw [show Mem.rowsU l = Mem.rowsR l by unfold Mem.rowsU; rw [hok9]; rfl, hok9, Mem.rows_filter]
          have hs00 : Mem.sets l = [] := List.eq_nil_of_length_eq_zero (by rw [Mem.sets_len]; omega)
          rw [hs00]
          exact ⟨none, 0, 0, rfl, ⟨rfl, by omega, .inl rfl⟩, hE⟩
        ·
          obtain ⟨gs, fb, fc, rfl, hgs, hSV⟩ := own_sets os9 hsl9 h0
          have hSl := Mem.sets_asc hll
          have hgl := hSV.lt
          have hX125 : Ext w51 w51 := Ext.refl _
          have hb17 := b9
          have hEw17 := hE
          refine cw_plain ?_
          refine pl_take (.slice (some ⟨gs, 0, none⟩) j cs) rfl (by kernel_rfl) (by kernel_rfl) (by kernel_rfl) (ex_load rfl (by kernel_rfl) (ld39 (b9.1))) ?_
          refine pl_step rfl (by kernel_rfl) (by kernel_rfl) (by kernel_rfl) (sn_call (f := 39) (args := #[.slice (some ⟨gs, 0, none⟩) j cs]) (by kernel_rfl) ((Clone_c _ _ hSV (Ext.refl _) h0 (by omega)).mono ?_))
          rintro e w131 ⟨q126, k127, rfl, hnk128, hq129, hR130, hb⟩
          replace e0 := e0.trans hb
          replace hE := hE.trans hb
          replace hX125 := hX125.trans hb
          replace bO5_0 := BoxAt.ext hb bO5_0
          replace hWl := hWl.ext hb
          replace b9 := BoxAt.ext hb b9
          have hs132 := hb.size
          clear hb
          have hX133 : Ext w131 w131 := Ext.refl _
          refine ⟨_, rfl, ?_⟩
          refine pT (.func (.func 40) #[] #[.pointer (some ⟨O44, 0, none⟩)]) ?_
          have hEw : Ext w w51 := hEw17
          have hc17 := hb17.1
          have hE17 : Ext w51 w131 := hX125
          refine pl_step rfl (by kernel_rfl) (by kernel_rfl) (by kernel_rfl) (sn_call (f := 38) (args := #[.slice (some ⟨q126, 0, none⟩) j k127, .func (.func 40) #[] #[.pointer (some ⟨O44, 0, none⟩)]]) (by kernel_rfl) (((Delete_c (cg := cs) _ _ (hSV.ext (Ext.refl _)) hE17 hc17 hE17 hSl (hR130.ext (Ext.refl _)) (by omega) (Nat.le_refl _) hq129 hnk128 h0)).mono ?_))
          rintro e w136 ⟨rfl, hP7⟩
          obtain ⟨fb134, fc135, hSV2, hE0, hE1⟩ := hP7
          have hE7 := hEw.trans hE1
          have hs137 := hE1.size
          refine ⟨_, rfl, ?_⟩
          refine pT (.slice (some ⟨q126, 0, none⟩) (((Mem.sets l).filter fun a => !Mem.gone (Mem.sets l) a).length) k127) ?_
          refine pT (.int .i64 0) ?_
          refine pl_nil ?_
          refine qw_then ?_
          refine cw_ret ?_
          refine qw_ret [.slice (some ⟨q126, 0, none⟩) (((Mem.sets l).filter fun a => !Mem.gone (Mem.sets l) a).length) k127, .int .i64 0] rfl ⟨(by kernel_rfl), (by kernel_rfl), trivial⟩ ?_
          rw [show Mem.rowsU l = Mem.rowsR l by unfold Mem.rowsU; rw [hok9]; rfl, hok9, Mem.rows_filter]
          have hfl9 := List.length_filter_le (fun a => !Mem.gone (Mem.sets l) a) (Mem.sets l)
          rw [Mem.sets_len] at hfl9
          exact ⟨_, _, _, rfl, ⟨rfl, by omega, .inr ⟨_, _, _, rfl, hSV2⟩⟩, hE7⟩
  ·
    refine pl_step rfl (by kernel_rfl) (by kernel_rfl) (by kernel_rfl) (sn_call (f := 18) (args := #[.slice a n c]) (by kernel_rfl) ((Valid_r (l := l) (r := false) _ _ h e0 hb9).mono ?_))
    rintro e w138 ⟨rfl, hb⟩
    replace e0 := e0.trans hb
    replace hE := hE.trans hb
    replace bO5_0 := BoxAt.ext hb bO5_0
    have hs139 := hb.size
    clear hb
    refine ⟨_, rfl, ?_⟩
    refine pT (.bool true) ?_
    refine pl_nil ?_
    refine qw_then ?_
    refine cw_t (by kernel_rfl) ?_
    refine cw_seq ?_
    refine cw_plain ?_
    refine pT (.slice none 0 0) ?_
    refine pT (.int .i64 110) ?_
    refine pl_nil ?_
    refine qw_then ?_
    refine cw_ret ?_
    refine qw_then_ret ?_
    refine qw_ret [.slice none 0 0, .int .i64 110] rfl ⟨(by kernel_rfl), (by kernel_rfl), trivial⟩ ?_
    rw [show Mem.rowsU l = [] by unfold Mem.rowsU; rw [hb9]; rfl, hb9]
    exact ⟨none, 0, 0, rfl, ⟨rfl, by omega, .inl rfl⟩, hE⟩

end Go.Proofs.Ytnbjjddfcondlaa

/- Contracts of the reference of chapter 11: equal rows. -/
namespace Go.Proofs.Ytnbjjddfcondlaa
open Go.RowKit

theorem nats_ext {s t : List Nat} (hl : s.length = t.length) (h : ∀ k, k < s.length → Mem.natN s k = Mem.natN t k) : s = t := by
  apply List.ext_getElem hl
  intro i h1 h2
  have := h i h1
  have e1 := Mem.natN_at h1
  have e2 := Mem.natN_at h2
  rw [List.getElem?_eq_getElem h1] at e1
  rw [List.getElem?_eq_getElem h2] at e2
  rw [Option.some.inj e1, Option.some.inj e2, this]
theorem sets_ext {s t : List (List Nat)} (hl : s.length = t.length) (h : ∀ k, k < s.length → snN s k = snN t k) : s = t := by
  apply List.ext_getElem hl
  intro i h1 h2
  have := h i h1
  have e1 := snN_at h1
  have e2 := snN_at h2
  rw [List.getElem?_eq_getElem h1] at e1
  rw [List.getElem?_eq_getElem h2] at e2
  rw [Option.some.inj e1, Option.some.inj e2, this]
theorem SetsAt.parts {w : World} {a : Option Addr} {n : Nat} {S : List (List Nat)} (h : SetsAt w a n S) : ∃ g fb fc, (0 < n → a = some ⟨g, 0, none⟩) ∧ (0 < n → g < w.heap.size) ∧ (∀ k, k < n → w.cell? ⟨g, k, none⟩ = some (slv fb fc S k)) ∧ ∀ k, k < n → NatsAt w (fb k) (snN S k) := by
  obtain ⟨h1, _, h3⟩ := h
  rcases h3 with h3 | ⟨g, fb, fc, ha, hv⟩
  · exact ⟨0, fun _ => 0, fun _ => 0, fun h => by omega, fun h => by omega, fun k hk => by omega, fun k hk => by omega⟩
  · exact ⟨g, fb, fc, fun _ => ha, fun _ => hv.lt, hv.cell, hv.nats⟩
set_option maxRecDepth 1000000 in
set_option maxHeartbeats 4000000 in
theorem Ints_c {w1 w2 : World} {b1 b2 : Nat} {s1 s2 : List Nat} (c1 c2 : Nat) (w : World) (h1 : NatsAt w1 b1 s1) (e1 : Ext w1 w) (h2 : NatsAt w2 b2 s2) (e2 : Ext w2 w) (hm1 : s1.length ≤ 1000000) (_hm2 : s2.length ≤ 1000000) : Calls Try.prog 45 #[.slice (some ⟨b1, 0, none⟩) s1.length c1, .slice (some ⟨b2, 0, none⟩) s2.length c2] w fun e w' => e = .returned (.bool (decide (s1 = s2))) ∧ Ext w w' := by
  replace h1 := h1.ext e1; replace h2 := h2.ext e2; clear e1 e2
  refine calls_cw 26 [(1, .slice (some ⟨b2, 0, none⟩) s2.length c2), (0, .slice (some ⟨b1, 0, none⟩) s1.length c1)] Try.func45 rfl Try.ntmps45 (by kernel_rfl) (by kernel_rfl) (fun L => ?_)
  have hE : Ext w w := Ext.refl w
  refine cw_seq ?_
  refine cw_plain ?_
  refine pT (.bool false) ?_
  refine pl_nil ?_
  refine qw_then ?_
  refine cw_seq ?_
  refine cw_seq ?_
  refine cw_plain ?_
  refine pT (.slice (some ⟨b1, 0, none⟩) s1.length c1) ?_
  refine pT (.int .i64 (((s1.length : Nat) : Int) : Int)) ?_
  refine pT (.slice (some ⟨b2, 0, none⟩) s2.length c2) ?_
  refine pT (.int .i64 (((s2.length : Nat) : Int) : Int)) ?_
  by_cases hc5 : (((s1.length : Nat) : Int) : Int) = (((s2.length : Nat) : Int) : Int)
  ·
    refine pl_take (.bool false) rfl (by kernel_rfl) (by kernel_rfl) (by kernel_rfl) (ev_nne (show _ = Result.ok (Next.value (Value.bool ((((s1.length : Nat) : Int) : Int) != (((s2.length : Nat) : Int) : Int)))) _ from by kernel_rfl) (hc5)) ?_
    refine pl_nil ?_
    refine qw_then ?_
    refine cw_f (by kernel_rfl) ?_
    refine cw_skip ?_
    refine qw_then ?_
    refine cw_seq ?_
    refine cw_seq ?_
    refine cw_plain ?_
    refine pT (.int .i64 0) ?_
    refine pl_nil ?_
    refine qw_then ?_
    refine cw_block ?_
    refine cw_loop [0, 1, 5] (fun ws' wr m => ∃ i : Nat, ws' = [(0, .slice (some ⟨b1, 0, none⟩) s1.length c1), (1, .slice (some ⟨b2, 0, none⟩) s2.length c2), (5, .int .i64 (((i : Nat) : Int) : Int))] ∧ m = s1.length - i ∧ w.heap.size ≤ wr.heap.size ∧ Ext w wr ∧ i ≤ s1.length ∧ (∀ k, k < i → Mem.natN s1 k = Mem.natN s2 k)) (ws0 := [(0, .slice (some ⟨b1, 0, none⟩) s1.length c1), (1, .slice (some ⟨b2, 0, none⟩) s2.length c2), (5, .int .i64 0)]) (by kernel_rfl) _ ⟨0, rfl, rfl, Nat.le_refl _, hE, Nat.zero_le _, (fun k hk => by omega)⟩ ?_
    clear hE
    rintro m8 L ws w7 ⟨i, rfl, rfl, hs6, hE, hi, hno⟩
    by_cases hlt : i < s1.length
    ·
      refine cw_seq ?_
      refine cw_seq ?_
      refine cw_plain ?_
      refine pT (.int .i64 (((i : Nat) : Int) : Int)) ?_
      refine pT (.slice (some ⟨b1, 0, none⟩) s1.length c1) ?_
      refine pT (.int .i64 (((s1.length : Nat) : Int) : Int)) ?_
      refine pl_take (.bool true) rfl (by kernel_rfl) (by kernel_rfl) (by kernel_rfl) (ev_dec (show _ = Result.ok (Next.value (Value.bool (decide ((((i : Nat) : Int) : Int) < (((s1.length : Nat) : Int) : Int))))) _ from by kernel_rfl) (by omega)) ?_
      refine pl_nil ?_
      refine qw_then ?_
      refine cw_t (by kernel_rfl) ?_
      refine cw_skip ?_
      refine qw_then ?_
      refine cw_seq ?_
      refine cw_block ?_
      refine cw_seq ?_
      have q1 := h1.2 i _ (Mem.natN_at hlt)
      have q2 := h2.2 i _ (Mem.natN_at (show i < s2.length by omega))
      by_cases hne : ((Mem.natN s1 i : Nat) : Int) = ((Mem.natN s2 i : Nat) : Int)
      ·
        refine cw_draw [(some 17, [0], []), (some 18, [5], []), (some 19, [17, 18], [0, 1]), (some 20, [19], [2]), (some 21, [1], []), (some 22, [5], []), (some 23, [21, 22], [4, 5]), (some 24, [23], [6]), (some 25, [20, 24], [3, 7])] (fun w' => Ext w w') (by kernel_rfl) (by kernel_rfl) (by kernel_rfl) (by kernel_rfl) ((calm_then (calm_block (calm_then (calm_then (calm_block (calm_then calm_body))))))) (Ext.drew hE) (fun ops Q X9 hb hL hR hK => ?_)
        replace hE := hE.trans hb
        have hs10 := hb.size
        clear hb
        refine wd_take 0 (.slice (some ⟨b1, 0, none⟩) s1.length c1) hR rfl (by kernel_rfl) rfl (by kernel_rfl) (fun w _ => by kernel_rfl) (hE) ?_
        refine wd_take 1 (.int .i64 (((i : Nat) : Int) : Int)) hR rfl (by kernel_rfl) rfl (by kernel_rfl) (fun w _ => by kernel_rfl) (hE) ?_
        refine wd_take 2 (.pointer (some ⟨b1, i, none⟩)) hR rfl (by kernel_rfl) rfl (by kernel_rfl) (fun w _ => ex_index (p := .slice (some ⟨b1, 0, none⟩) s1.length c1) (i := .int .i64 ((i : Nat) : Int)) rfl (by kernel_rfl) (by kernel_rfl) (ix56z (k := i) (by omega))) (hE) ?_
        refine wd_take 3 (.int .i64 (((Mem.natN s1 i : Nat) : Int) : Int)) hR rfl (by kernel_rfl) rfl (by kernel_rfl) (fun w hS => ex_load rfl (by kernel_rfl) (ld3 (hS.cell q1))) (hE) ?_
        refine wd_take 4 (.slice (some ⟨b2, 0, none⟩) s2.length c2) hR rfl (by kernel_rfl) rfl (by kernel_rfl) (fun w _ => by kernel_rfl) (hE) ?_
        refine wd_take 5 (.int .i64 (((i : Nat) : Int) : Int)) hR rfl (by kernel_rfl) rfl (by kernel_rfl) (fun w _ => by kernel_rfl) (hE) ?_
        refine wd_take 6 (.pointer (some ⟨b2, i, none⟩)) hR rfl (by kernel_rfl) rfl (by kernel_rfl) (fun w _ => ex_index (p := .slice (some ⟨b2, 0, none⟩) s2.length c2) (i := .int .i64 ((i : Nat) : Int)) rfl (by kernel_rfl) (by kernel_rfl) (ix56z (k := i) (by omega))) (hE) ?_
        refine wd_take 7 (.int .i64 (((Mem.natN s2 i : Nat) : Int) : Int)) hR rfl (by kernel_rfl) rfl (by kernel_rfl) (fun w hS => ex_load rfl (by kernel_rfl) (ld3 (hS.cell q2))) (hE) ?_
        refine wd_take 8 (.bool false) hR rfl (by kernel_rfl) rfl (by kernel_rfl) (fun w _ => ev_nne (show _ = Result.ok (Next.value (Value.bool ((((Mem.natN s1 i : Nat) : Int) : Int) != (((Mem.natN s2 i : Nat) : Int) : Int)))) _ from by kernel_rfl) (hne)) (hE) ?_
        refine wd_end hL hR hK (by kernel_rfl) ?_
        refine qw_then ?_
        refine cw_clean [0, 1, 5, 25] (ws' := [(0, .slice (some ⟨b1, 0, none⟩) s1.length c1), (1, .slice (some ⟨b2, 0, none⟩) s2.length c2), (5, .int .i64 (((i : Nat) : Int) : Int)), (25, .bool false)]) (by kernel_rfl) (fun L => ?_)
        refine cw_f (by kernel_rfl) ?_
        refine cw_skip ?_
        refine qw_block ?_
        refine qw_then ?_
        refine cw_plain ?_
        refine pT (.int .i64 (((i : Nat) : Int) : Int)) ?_
        refine pl_take (.int .i64 (((i + 1 : Nat) : Int) : Int)) rfl (by kernel_rfl) (by kernel_rfl) (by kernel_rfl) (ev_wrap (by kernel_rfl) (by omega) (by omega)) ?_
        refine pT (.int .i64 (((i + 1 : Nat) : Int) : Int)) ?_
        refine pl_nil ?_
        refine qw_round [0, 1, 5] (ws' := [(0, .slice (some ⟨b1, 0, none⟩) s1.length c1), (1, .slice (some ⟨b2, 0, none⟩) s2.length c2), (5, .int .i64 (((i + 1 : Nat) : Int) : Int))]) (by kernel_rfl) _ ?_ ⟨(i + 1), rfl, rfl, (Nat.le_trans hs6 hs10), hE, by omega, (fun k hk => by rcases Nat.eq_or_lt_of_le (show k ≤ i by omega) with rfl | hk; omega; exact hno k hk)⟩
        omega
      ·
        refine cw_draw [(some 17, [0], []), (some 18, [5], []), (some 19, [17, 18], [0, 1]), (some 20, [19], [2]), (some 21, [1], []), (some 22, [5], []), (some 23, [21, 22], [4, 5]), (some 24, [23], [6]), (some 25, [20, 24], [3, 7])] (fun w' => Ext w w') (by kernel_rfl) (by kernel_rfl) (by kernel_rfl) (by kernel_rfl) ((calm_then (calm_block (calm_then (calm_then (calm_block (calm_then calm_body))))))) (Ext.drew hE) (fun ops Q X11 hb hL hR hK => ?_)
        replace hE := hE.trans hb
        have hs12 := hb.size
        clear hb
        refine wd_take 0 (.slice (some ⟨b1, 0, none⟩) s1.length c1) hR rfl (by kernel_rfl) rfl (by kernel_rfl) (fun w _ => by kernel_rfl) (hE) ?_
        refine wd_take 1 (.int .i64 (((i : Nat) : Int) : Int)) hR rfl (by kernel_rfl) rfl (by kernel_rfl) (fun w _ => by kernel_rfl) (hE) ?_
        refine wd_take 2 (.pointer (some ⟨b1, i, none⟩)) hR rfl (by kernel_rfl) rfl (by kernel_rfl) (fun w _ => ex_index (p := .slice (some ⟨b1, 0, none⟩) s1.length c1) (i := .int .i64 ((i : Nat) : Int)) rfl (by kernel_rfl) (by kernel_rfl) (ix56z (k := i) (by omega))) (hE) ?_
        refine wd_take 3 (.int .i64 (((Mem.natN s1 i : Nat) : Int) : Int)) hR rfl (by kernel_rfl) rfl (by kernel_rfl) (fun w hS => ex_load rfl (by kernel_rfl) (ld3 (hS.cell q1))) (hE) ?_
        refine wd_take 4 (.slice (some ⟨b2, 0, none⟩) s2.length c2) hR rfl (by kernel_rfl) rfl (by kernel_rfl) (fun w _ => by kernel_rfl) (hE) ?_
        refine wd_take 5 (.int .i64 (((i : Nat) : Int) : Int)) hR rfl (by kernel_rfl) rfl (by kernel_rfl) (fun w _ => by kernel_rfl) (hE) ?_
        refine wd_take 6 (.pointer (some ⟨b2, i, none⟩)) hR rfl (by kernel_rfl) rfl (by kernel_rfl) (fun w _ => ex_index (p := .slice (some ⟨b2, 0, none⟩) s2.length c2) (i := .int .i64 ((i : Nat) : Int)) rfl (by kernel_rfl) (by kernel_rfl) (ix56z (k := i) (by omega))) (hE) ?_
        refine wd_take 7 (.int .i64 (((Mem.natN s2 i : Nat) : Int) : Int)) hR rfl (by kernel_rfl) rfl (by kernel_rfl) (fun w hS => ex_load rfl (by kernel_rfl) (ld3 (hS.cell q2))) (hE) ?_
        refine wd_take 8 (.bool true) hR rfl (by kernel_rfl) rfl (by kernel_rfl) (fun w _ => ev_ne (show _ = Result.ok (Next.value (Value.bool ((((Mem.natN s1 i : Nat) : Int) : Int) != (((Mem.natN s2 i : Nat) : Int) : Int)))) _ from by kernel_rfl) (hne)) (hE) ?_
        refine wd_end hL hR hK (by kernel_rfl) ?_
        refine qw_then ?_
        refine cw_clean [0, 1, 5, 25] (ws' := [(0, .slice (some ⟨b1, 0, none⟩) s1.length c1), (1, .slice (some ⟨b2, 0, none⟩) s2.length c2), (5, .int .i64 (((i : Nat) : Int) : Int)), (25, .bool true)]) (by kernel_rfl) (fun L => ?_)
        refine cw_t (by kernel_rfl) ?_
        refine cw_seq ?_
        refine cw_plain ?_
        refine pT (.bool false) ?_
        refine pl_nil ?_
        refine qw_then ?_
        refine cw_ret ?_
        refine qw_block_ret ?_
        refine qw_then_ret ?_
        refine qw_then_ret ?_
        refine qw_block_ret ?_
        refine qw_then_ret ?_
        refine qw_ret [.bool false] rfl ⟨(by kernel_rfl), trivial⟩ ?_
        have hne9 : ¬ s1 = s2 := fun e => hne (by rw [e])
        exact ⟨congrArg (fun b => Ending.returned (Value.bool b)) (decide_eq_false hne9).symm, hE⟩
    ·
      have hin : i = s1.length := by omega
      refine cw_seq ?_
      refine cw_seq ?_
      refine cw_plain ?_
      refine pT (.int .i64 (((i : Nat) : Int) : Int)) ?_
      refine pT (.slice (some ⟨b1, 0, none⟩) s1.length c1) ?_
      refine pT (.int .i64 (((s1.length : Nat) : Int) : Int)) ?_
      refine pl_take (.bool false) rfl (by kernel_rfl) (by kernel_rfl) (by kernel_rfl) (ev_ndec (show _ = Result.ok (Next.value (Value.bool (decide ((((i : Nat) : Int) : Int) < (((s1.length : Nat) : Int) : Int))))) _ from by kernel_rfl) (by omega)) ?_
      refine pl_nil ?_
      refine qw_then ?_
      refine cw_f (by kernel_rfl) ?_
      refine cw_exit ?_
      refine qw_then_exit ?_
      refine qw_then_exit ?_
      refine qw_block_out ?_
      refine qw_then ?_
      refine cw_seq ?_
      refine cw_plain ?_
      refine pT (.bool true) ?_
      refine pl_nil ?_
      refine qw_then ?_
      refine cw_ret ?_
      refine qw_ret [.bool true] rfl ⟨(by kernel_rfl), trivial⟩ ?_
      have heq := nats_ext (s := s1) (t := s2) (by omega) (fun k hk => hno k (by omega))
      exact ⟨congrArg (fun b => Ending.returned (Value.bool b)) (decide_eq_true heq).symm, hE⟩
  ·
    refine pl_take (.bool true) rfl (by kernel_rfl) (by kernel_rfl) (by kernel_rfl) (ev_ne (show _ = Result.ok (Next.value (Value.bool ((((s1.length : Nat) : Int) : Int) != (((s2.length : Nat) : Int) : Int)))) _ from by kernel_rfl) (hc5)) ?_
    refine pl_nil ?_
    refine qw_then ?_
    refine cw_t (by kernel_rfl) ?_
    refine cw_seq ?_
    refine cw_plain ?_
    refine pT (.bool false) ?_
    refine pl_nil ?_
    refine qw_then ?_
    refine cw_ret ?_
    refine qw_then_ret ?_
    refine qw_ret [.bool false] rfl ⟨(by kernel_rfl), trivial⟩ ?_
    have hne : ¬ s1 = s2 := fun e => by rw [e] at hc5; exact hc5 rfl
    exact ⟨congrArg (fun b => Ending.returned (Value.bool b)) (decide_eq_false hne).symm, hE⟩
theorem Ints_r {w1 w2 : World} {b1 b2 : Nat} {s1 s2 : List Nat} (c1 c2 : Nat) {r : Bool} (w : World) (h1 : NatsAt w1 b1 s1) (e1 : Ext w1 w) (h2 : NatsAt w2 b2 s2) (e2 : Ext w2 w) (hm1 : s1.length ≤ 1000000) (hm2 : s2.length ≤ 1000000) (hr : decide (s1 = s2) = r) : Calls Try.prog 45 #[.slice (some ⟨b1, 0, none⟩) s1.length c1, .slice (some ⟨b2, 0, none⟩) s2.length c2] w fun e w' => e = .returned (.bool r) ∧ Ext w w' := hr ▸ Ints_c c1 c2 w h1 e1 h2 e2 hm1 hm2
set_option maxRecDepth 1000000 in
set_option maxHeartbeats 4000000 in
theorem SameRows_c {w1 w2 : World} {a1 a2 : Option Addr} {n1 n2 : Nat} {S1 S2 : List (List Nat)} (c1 c2 : Nat) (w : World) (h1 : SetsAt w1 a1 n1 S1) (e1 : Ext w1 w) (h2 : SetsAt w2 a2 n2 S2) (e2 : Ext w2 w) (hm1 : ∀ i, i < n1 → (snN S1 i).length ≤ 1000000) (hm2 : ∀ i, i < n2 → (snN S2 i).length ≤ 1000000) : Calls Try.prog 17 #[.slice a1 n1 c1, .slice a2 n2 c2] w fun e w' => e = .returned (.bool (decide (S1 = S2))) ∧ Ext w w' := by
  replace h1 := h1.ext e1; replace h2 := h2.ext e2; clear e1 e2
  have hl1 := h1.1; have hl2 := h2.1; have hx1 := h1.2.1; have hx2 := h2.2.1
  obtain ⟨g1, fb1, fc1, ha1, hg1, hc1, hn1⟩ := h1.parts
  obtain ⟨g2, fb2, fc2, ha2, hg2, hc2, hn2⟩ := h2.parts
  refine calls_cw 27 [(1, .slice a2 n2 c2), (0, .slice a1 n1 c1)] Try.func17 rfl Try.ntmps17 (by kernel_rfl) (by kernel_rfl) (fun L => ?_)
  have hE : Ext w w := Ext.refl w
  refine cw_seq ?_
  refine cw_plain ?_
  refine pT (.bool false) ?_
  refine pl_nil ?_
  refine qw_then ?_
  refine cw_seq ?_
  refine cw_seq ?_
  refine cw_plain ?_
  refine pT (.slice a1 n1 c1) ?_
  refine pT (.int .i64 (((n1 : Nat) : Int) : Int)) ?_
  refine pT (.slice a2 n2 c2) ?_
  refine pT (.int .i64 (((n2 : Nat) : Int) : Int)) ?_
  by_cases hc5 : (((n1 : Nat) : Int) : Int) = (((n2 : Nat) : Int) : Int)
  ·
    refine pl_take (.bool false) rfl (by kernel_rfl) (by kernel_rfl) (by kernel_rfl) (ev_nne (show _ = Result.ok (Next.value (Value.bool ((((n1 : Nat) : Int) : Int) != (((n2 : Nat) : Int) : Int)))) _ from by kernel_rfl) (hc5)) ?_
    refine pl_nil ?_
    refine qw_then ?_
    refine cw_f (by kernel_rfl) ?_
    refine cw_skip ?_
    refine qw_then ?_
    refine cw_seq ?_
    refine cw_seq ?_
    refine cw_plain ?_
    refine pT (.int .i64 0) ?_
    refine pl_nil ?_
    refine qw_then ?_
    refine cw_block ?_
    refine cw_loop [0, 1, 5] (fun ws' wr m => ∃ i : Nat, ws' = [(0, .slice a1 n1 c1), (1, .slice a2 n2 c2), (5, .int .i64 (((i : Nat) : Int) : Int))] ∧ m = n1 - i ∧ w.heap.size ≤ wr.heap.size ∧ Ext w wr ∧ i ≤ n1 ∧ (∀ k, k < i → snN S1 k = snN S2 k)) (ws0 := [(0, .slice a1 n1 c1), (1, .slice a2 n2 c2), (5, .int .i64 0)]) (by kernel_rfl) _ ⟨0, rfl, rfl, Nat.le_refl _, hE, Nat.zero_le _, (fun k hk => by omega)⟩ ?_
    clear hE
    rintro m8 L ws w7 ⟨i, rfl, rfl, hs6, hE, hi, hno⟩
    by_cases hlt : i < n1
    ·
      obtain rfl := ha1 (by omega)
      obtain rfl := ha2 (by omega)
      have q1 := hc1 i (by omega)
      have q2 := hc2 i (by omega)
      refine cw_seq ?_
      refine cw_seq ?_
      refine cw_plain ?_
      refine pT (.int .i64 (((i : Nat) : Int) : Int)) ?_
      refine pT (.slice (some ⟨g1, 0, none⟩) n1 c1) ?_
      refine pT (.int .i64 (((n1 : Nat) : Int) : Int)) ?_
      refine pl_take (.bool true) rfl (by kernel_rfl) (by kernel_rfl) (by kernel_rfl) (ev_dec (show _ = Result.ok (Next.value (Value.bool (decide ((((i : Nat) : Int) : Int) < (((n1 : Nat) : Int) : Int))))) _ from by kernel_rfl) (by omega)) ?_
      refine pl_nil ?_
      refine qw_then ?_
      refine cw_t (by kernel_rfl) ?_
      refine cw_skip ?_
      refine qw_then ?_
      refine cw_seq ?_
      refine cw_block ?_
      refine cw_seq ?_
      rcases Bool.eq_false_or_eq_true (decide (snN S1 i = snN S2 i)) with hd | hd
      ·
        refine cw_draw [(some 17, [0], []), (some 18, [5], []), (some 19, [17, 18], [0, 1]), (some 20, [19], [2]), (some 21, [1], []), (some 22, [5], []), (some 23, [21, 22], [4, 5]), (some 24, [23], [6]), (some 25, [20, 24], [3, 7]), (some 26, [25], [8])] (fun w' => Ext w w') (by kernel_rfl) (by kernel_rfl) (by kernel_rfl) (by kernel_rfl) ((calm_then (calm_block (calm_then (calm_then (calm_block (calm_then calm_body))))))) (Ext.drew hE) (fun ops Q X9 hb hL hR hK => ?_)
        replace hE := hE.trans hb
        have hs10 := hb.size
        clear hb
        refine wd_take 0 (.slice (some ⟨g1, 0, none⟩) n1 c1) hR rfl (by kernel_rfl) rfl (by kernel_rfl) (fun w _ => by kernel_rfl) (hE) ?_
        refine wd_take 1 (.int .i64 (((i : Nat) : Int) : Int)) hR rfl (by kernel_rfl) rfl (by kernel_rfl) (fun w _ => by kernel_rfl) (hE) ?_
        refine wd_take 2 (.pointer (some ⟨g1, i, none⟩)) hR rfl (by kernel_rfl) rfl (by kernel_rfl) (fun w _ => ex_index (p := .slice (some ⟨g1, 0, none⟩) n1 c1) (i := .int .i64 ((i : Nat) : Int)) rfl (by kernel_rfl) (by kernel_rfl) (ix39z (k := i) (by omega))) (hE) ?_
        refine wd_take 3 (.slice (some ⟨(fb1 i), 0, none⟩) ((snN S1 i).length) ((fc1 i))) hR rfl (by kernel_rfl) rfl (by kernel_rfl) (fun w hS => ex_load rfl (by kernel_rfl) (ld56 (hS.cell q1))) (hE) ?_
        refine wd_take 4 (.slice (some ⟨g2, 0, none⟩) n2 c2) hR rfl (by kernel_rfl) rfl (by kernel_rfl) (fun w _ => by kernel_rfl) (hE) ?_
        refine wd_take 5 (.int .i64 (((i : Nat) : Int) : Int)) hR rfl (by kernel_rfl) rfl (by kernel_rfl) (fun w _ => by kernel_rfl) (hE) ?_
        refine wd_take 6 (.pointer (some ⟨g2, i, none⟩)) hR rfl (by kernel_rfl) rfl (by kernel_rfl) (fun w _ => ex_index (p := .slice (some ⟨g2, 0, none⟩) n2 c2) (i := .int .i64 ((i : Nat) : Int)) rfl (by kernel_rfl) (by kernel_rfl) (ix39z (k := i) (by omega))) (hE) ?_
        refine wd_take 7 (.slice (some ⟨(fb2 i), 0, none⟩) ((snN S2 i).length) ((fc2 i))) hR rfl (by kernel_rfl) rfl (by kernel_rfl) (fun w hS => ex_load rfl (by kernel_rfl) (ld56 (hS.cell q2))) (hE) ?_
        refine wd_step 8 hR rfl (by kernel_rfl) (by kernel_rfl) (by kernel_rfl) (sn_call (f := 45) (args := #[.slice (some ⟨(fb1 i), 0, none⟩) ((snN S1 i).length) ((fc1 i)), .slice (some ⟨(fb2 i), 0, none⟩) ((snN S2 i).length) ((fc2 i))]) (by kernel_rfl) ((Ints_r (r := true) _ _ _ (hn1 i (by omega)) hE (hn2 i (by omega)) hE (hm1 _ (by omega)) (hm2 _ (by omega)) hd).mono ?_))
        rintro e w11 ⟨rfl, hb⟩
        replace hE := hE.trans hb
        have hs12 := hb.size
        clear hb
        refine ⟨_, rfl, hE, ?_⟩
        refine wd_take 9 (.bool false) hR rfl (by kernel_rfl) rfl (by kernel_rfl) (fun w _ => by kernel_rfl) (hE) ?_
        refine wd_end hL hR hK (by kernel_rfl) ?_
        refine qw_then ?_
        refine cw_clean [0, 1, 5, 26] (ws' := [(0, .slice (some ⟨g1, 0, none⟩) n1 c1), (1, .slice (some ⟨g2, 0, none⟩) n2 c2), (5, .int .i64 (((i : Nat) : Int) : Int)), (26, .bool false)]) (by kernel_rfl) (fun L => ?_)
        refine cw_f (by kernel_rfl) ?_
        refine cw_skip ?_
        refine qw_block ?_
        refine qw_then ?_
        refine cw_plain ?_
        refine pT (.int .i64 (((i : Nat) : Int) : Int)) ?_
        refine pl_take (.int .i64 (((i + 1 : Nat) : Int) : Int)) rfl (by kernel_rfl) (by kernel_rfl) (by kernel_rfl) (ev_wrap (by kernel_rfl) (by omega) (by omega)) ?_
        refine pT (.int .i64 (((i + 1 : Nat) : Int) : Int)) ?_
        refine pl_nil ?_
        refine qw_round [0, 1, 5] (ws' := [(0, .slice (some ⟨g1, 0, none⟩) n1 c1), (1, .slice (some ⟨g2, 0, none⟩) n2 c2), (5, .int .i64 (((i + 1 : Nat) : Int) : Int))]) (by kernel_rfl) _ ?_ ⟨(i + 1), rfl, rfl, (Nat.le_trans hs6 (Nat.le_trans hs10 hs12)), hE, by omega, (fun k hk => by rcases Nat.eq_or_lt_of_le (show k ≤ i by omega) with rfl | hk; exact of_decide_eq_true hd; exact hno k hk)⟩
        omega
      ·
        refine cw_draw [(some 17, [0], []), (some 18, [5], []), (some 19, [17, 18], [0, 1]), (some 20, [19], [2]), (some 21, [1], []), (some 22, [5], []), (some 23, [21, 22], [4, 5]), (some 24, [23], [6]), (some 25, [20, 24], [3, 7]), (some 26, [25], [8])] (fun w' => Ext w w') (by kernel_rfl) (by kernel_rfl) (by kernel_rfl) (by kernel_rfl) ((calm_then (calm_block (calm_then (calm_then (calm_block (calm_then calm_body))))))) (Ext.drew hE) (fun ops Q X13 hb hL hR hK => ?_)
        replace hE := hE.trans hb
        have hs14 := hb.size
        clear hb
        refine wd_take 0 (.slice (some ⟨g1, 0, none⟩) n1 c1) hR rfl (by kernel_rfl) rfl (by kernel_rfl) (fun w _ => by kernel_rfl) (hE) ?_
        refine wd_take 1 (.int .i64 (((i : Nat) : Int) : Int)) hR rfl (by kernel_rfl) rfl (by kernel_rfl) (fun w _ => by kernel_rfl) (hE) ?_
        refine wd_take 2 (.pointer (some ⟨g1, i, none⟩)) hR rfl (by kernel_rfl) rfl (by kernel_rfl) (fun w _ => ex_index (p := .slice (some ⟨g1, 0, none⟩) n1 c1) (i := .int .i64 ((i : Nat) : Int)) rfl (by kernel_rfl) (by kernel_rfl) (ix39z (k := i) (by omega))) (hE) ?_
        refine wd_take 3 (.slice (some ⟨(fb1 i), 0, none⟩) ((snN S1 i).length) ((fc1 i))) hR rfl (by kernel_rfl) rfl (by kernel_rfl) (fun w hS => ex_load rfl (by kernel_rfl) (ld56 (hS.cell q1))) (hE) ?_
        refine wd_take 4 (.slice (some ⟨g2, 0, none⟩) n2 c2) hR rfl (by kernel_rfl) rfl (by kernel_rfl) (fun w _ => by kernel_rfl) (hE) ?_
        refine wd_take 5 (.int .i64 (((i : Nat) : Int) : Int)) hR rfl (by kernel_rfl) rfl (by kernel_rfl) (fun w _ => by kernel_rfl) (hE) ?_
        refine wd_take 6 (.pointer (some ⟨g2, i, none⟩)) hR rfl (by kernel_rfl) rfl (by kernel_rfl) (fun w _ => ex_index (p := .slice (some ⟨g2, 0, none⟩) n2 c2) (i := .int .i64 ((i : Nat) : Int)) rfl (by kernel_rfl) (by kernel_rfl) (ix39z (k := i) (by omega))) (hE) ?_
        refine wd_take 7 (.slice (some ⟨(fb2 i), 0, none⟩) ((snN S2 i).length) ((fc2 i))) hR rfl (by kernel_rfl) rfl (by kernel_rfl) (fun w hS => ex_load rfl (by kernel_rfl) (ld56 (hS.cell q2))) (hE) ?_
        refine wd_step 8 hR rfl (by kernel_rfl) (by kernel_rfl) (by kernel_rfl) (sn_call (f := 45) (args := #[.slice (some ⟨(fb1 i), 0, none⟩) ((snN S1 i).length) ((fc1 i)), .slice (some ⟨(fb2 i), 0, none⟩) ((snN S2 i).length) ((fc2 i))]) (by kernel_rfl) ((Ints_r (r := false) _ _ _ (hn1 i (by omega)) hE (hn2 i (by omega)) hE (hm1 _ (by omega)) (hm2 _ (by omega)) hd).mono ?_))
        rintro e w15 ⟨rfl, hb⟩
        replace hE := hE.trans hb
        have hs16 := hb.size
        clear hb
        refine ⟨_, rfl, hE, ?_⟩
        refine wd_take 9 (.bool true) hR rfl (by kernel_rfl) rfl (by kernel_rfl) (fun w _ => by kernel_rfl) (hE) ?_
        refine wd_end hL hR hK (by kernel_rfl) ?_
        refine qw_then ?_
        refine cw_clean [0, 1, 5, 26] (ws' := [(0, .slice (some ⟨g1, 0, none⟩) n1 c1), (1, .slice (some ⟨g2, 0, none⟩) n2 c2), (5, .int .i64 (((i : Nat) : Int) : Int)), (26, .bool true)]) (by kernel_rfl) (fun L => ?_)
        refine cw_t (by kernel_rfl) ?_
        refine cw_seq ?_
        refine cw_plain ?_
        refine pT (.bool false) ?_
        refine pl_nil ?_
        refine qw_then ?_
        refine cw_ret ?_
        refine qw_block_ret ?_
        refine qw_then_ret ?_
        refine qw_then_ret ?_
        refine qw_block_ret ?_
        refine qw_then_ret ?_
        refine qw_ret [.bool false] rfl ⟨(by kernel_rfl), trivial⟩ ?_
        have hne : ¬ S1 = S2 := fun e => of_decide_eq_false hd (by rw [e])
        exact ⟨congrArg (fun b => Ending.returned (Value.bool b)) (decide_eq_false hne).symm, hE⟩
    ·
      have hin : i = n1 := by omega
      refine cw_seq ?_
      refine cw_seq ?_
      refine cw_plain ?_
      refine pT (.int .i64 (((i : Nat) : Int) : Int)) ?_
      refine pT (.slice a1 n1 c1) ?_
      refine pT (.int .i64 (((n1 : Nat) : Int) : Int)) ?_
      refine pl_take (.bool false) rfl (by kernel_rfl) (by kernel_rfl) (by kernel_rfl) (ev_ndec (show _ = Result.ok (Next.value (Value.bool (decide ((((i : Nat) : Int) : Int) < (((n1 : Nat) : Int) : Int))))) _ from by kernel_rfl) (by omega)) ?_
      refine pl_nil ?_
      refine qw_then ?_
      refine cw_f (by kernel_rfl) ?_
      refine cw_exit ?_
      refine qw_then_exit ?_
      refine qw_then_exit ?_
      refine qw_block_out ?_
      refine qw_then ?_
      refine cw_seq ?_
      refine cw_plain ?_
      refine pT (.bool true) ?_
      refine pl_nil ?_
      refine qw_then ?_
      refine cw_ret ?_
      refine qw_ret [.bool true] rfl ⟨(by kernel_rfl), trivial⟩ ?_
      have heq := sets_ext (s := S1) (t := S2) (by omega) (fun k hk => hno k (by omega))
      exact ⟨congrArg (fun b => Ending.returned (Value.bool b)) (decide_eq_true heq).symm, hE⟩
  ·
    refine pl_take (.bool true) rfl (by kernel_rfl) (by kernel_rfl) (by kernel_rfl) (ev_ne (show _ = Result.ok (Next.value (Value.bool ((((n1 : Nat) : Int) : Int) != (((n2 : Nat) : Int) : Int)))) _ from by kernel_rfl) (hc5)) ?_
    refine pl_nil ?_
    refine qw_then ?_
    refine cw_t (by kernel_rfl) ?_
    refine cw_seq ?_
    refine cw_plain ?_
    refine pT (.bool false) ?_
    refine pl_nil ?_
    refine qw_then ?_
    refine cw_ret ?_
    refine qw_then_ret ?_
    refine qw_ret [.bool false] rfl ⟨(by kernel_rfl), trivial⟩ ?_
    have hne : ¬ S1 = S2 := fun e => by rw [e] at hl1; omega
    exact ⟨congrArg (fun b => Ending.returned (Value.bool b)) (decide_eq_false hne).symm, hE⟩
theorem SameRows_r {w1 w2 : World} {a1 a2 : Option Addr} {n1 n2 : Nat} {S1 S2 : List (List Nat)} (c1 c2 : Nat) {r : Bool} (w : World) (h1 : SetsAt w1 a1 n1 S1) (e1 : Ext w1 w) (h2 : SetsAt w2 a2 n2 S2) (e2 : Ext w2 w) (hm1 : ∀ i, i < n1 → (snN S1 i).length ≤ 1000000) (hm2 : ∀ i, i < n2 → (snN S2 i).length ≤ 1000000) (hr : decide (S1 = S2) = r) : Calls Try.prog 17 #[.slice a1 n1 c1, .slice a2 n2 c2] w fun e w' => e = .returned (.bool r) ∧ Ext w w' := hr ▸ SameRows_c c1 c2 w h1 e1 h2 e2 hm1 hm2

end Go.Proofs.Ytnbjjddfcondlaa

/- 'pick': an index out of an arbitrary integer. Plain mathematics. -/
namespace Go.Proofs.Ytnbjjddfcondlaa

/-- The bounds of an int. -/
def IsI (c : Int) : Prop := -9223372036854775808 ≤ c ∧ c ≤ 9223372036854775807
def pickF (c n : Int) : Int := (if c < 0 then -(c + 1) else c) % n
theorem pickF_bd {c n : Int} (h : 0 < n) : 0 ≤ pickF c n ∧ pickF c n < n := ⟨Int.emod_nonneg _ (by omega), Int.emod_lt_of_pos _ h⟩
theorem pickF_neg {c n : Int} (h : c < 0) : pickF c n = (-(c + 1)) % n := by rw [pickF, if_pos h]
theorem pickF_pos {c n : Int} (h : 0 ≤ c) : pickF c n = c % n := by rw [pickF, if_neg (by omega)]

end Go.Proofs.Ytnbjjddfcondlaa

/- The laws' own check of the chapter's examples; pick. -/
namespace Go.Proofs.Ytnbjjddfcondlaa
open Go.RowKit

theorem sts3 {w : World} {O : Nat} {x y z : Mem.St} (h0 : StAt w O 0 x) (h1 : StAt w O 4 y) (h2 : StAt w O 8 z) : StsAt w (some ⟨O, 0, none⟩) 3 [x, y, z] :=
  ⟨rfl, by omega, .inr ⟨O, 0, rfl, fun i u hi => by
    match i, hi with
    | 0, hi => cases hi; exact h0
    | 1, hi => cases hi; exact h1
    | 2, hi => cases hi; exact h2
    | _ + 3, hi => simp at hi⟩⟩
theorem sts1 {w : World} {O : Nat} {x : Mem.St} (h0 : StAt w O 0 x) : StsAt w (some ⟨O, 0, none⟩) 1 [x] :=
  ⟨rfl, by omega, .inr ⟨O, 0, rfl, fun i u hi => by
    match i, hi with
    | 0, hi => cases hi; exact h0
    | _ + 1, hi => simp at hi⟩⟩
theorem sls2 {w : World} {O : Nat} {x y : Mem.Slt} (h0 : SlAt w O 0 x) (h1 : SlAt w O 3 y) : SlsAt w (some ⟨O, 0, none⟩) 2 [x, y] :=
  ⟨rfl, by omega, .inr ⟨O, 0, rfl, fun i u hi => by
    match i, hi with
    | 0, hi => cases hi; exact h0
    | 1, hi => cases hi; exact h1
    | _ + 2, hi => simp at hi⟩⟩
theorem nats2 {w : World} {O : Nat} {x y : Nat} (h0 : w.cell? ⟨O, 0, none⟩ = some (.int .i64 (x : Int))) (h1 : w.cell? ⟨O, 1, none⟩ = some (.int .i64 (y : Int))) : NatsAt w O [x, y] :=
  ⟨World.block_lt_of_cell? _ _ h0, fun k v hv => by
    match k, hv with
    | 0, hv => cases hv; exact h0
    | 1, hv => cases hv; exact h1
    | _ + 2, hv => simp at hv⟩
theorem sets2 {w : World} {O A B : Nat} {x y u v : Nat} (hA : NatsAt w A [x, y]) (hB : NatsAt w B [u, v]) (h0 : w.cell? ⟨O, 0, none⟩ = some (.slice (some ⟨A, 0, none⟩) 2 2)) (h1 : w.cell? ⟨O, 1, none⟩ = some (.slice (some ⟨B, 0, none⟩) 2 2)) : SetsAt w (some ⟨O, 0, none⟩) 2 [[x, y], [u, v]] :=
  ⟨rfl, by omega, .inr ⟨O, fun k => if k = 0 then A else B, fun _ => 2, rfl, rfl, World.block_lt_of_cell? _ _ h0, fun k hk => by
    match k, hk with
    | 0, _ => exact h0
    | 1, _ => exact h1, fun k hk => by
    match k, hk with
    | 0, _ => exact hA
    | 1, _ => exact hB⟩⟩
theorem cast_ret {P : Program} {f : FuncId} {args : Array Value} {w : World} {v v' : Value} (h : Calls P f args w fun e w' => e = .returned v ∧ Ext w w') (hv : v = v') : Calls P f args w fun e w' => e = .returned v' ∧ Ext w w' := hv ▸ h
theorem cast_rows {P : Program} {f : FuncId} {args : Array Value} {w : World} {S S' : List (List Nat)} {er er' : Int} (h : Calls P f args w (RowsRet w S er)) (hS : S = S') (he : er = er') : Calls P f args w (RowsRet w S' er') := hS ▸ he ▸ h
theorem snN_le {S : List (List Nat)} {m : Nat} (h : ∀ s ∈ S, s.length ≤ m) (i : Nat) : (snN S i).length ≤ m := by
  unfold snN
  cases q : S[i]? with
  | none => exact Nat.zero_le _
  | some s => exact h s (List.mem_of_getElem? q)
theorem eql26 {w : World} {a b c d a' b' c' d' : Int} : (binOp .eql 26 (.agg #[.int .i64 a, .int .i64 b, .int .i64 c, .int .i64 d]) (.agg #[.int .i64 a', .int .i64 b', .int .i64 c', .int .i64 d'])).run Try.prog w = .ok (.bool ((a == a') && ((b == b') && ((c == c') && (d == d'))))) w := by
  cases h1 : (a == a') <;> cases h2 : (b == b') <;> cases h3 : (c == c') <;> cases h4 : (d == d') <;> go_simp
theorem neq26 {w : World} {a b c d a' b' c' d' : Int} : (binOp .neq 26 (.agg #[.int .i64 a, .int .i64 b, .int .i64 c, .int .i64 d]) (.agg #[.int .i64 a', .int .i64 b', .int .i64 c', .int .i64 d'])).run Try.prog w = .ok (.bool (!((a == a') && ((b == b') && ((c == c') && (d == d')))))) w := by
  cases h1 : (a == a') <;> cases h2 : (b == b') <;> cases h3 : (c == c') <;> cases h4 : (d == d') <;> go_simp
theorem ex_s26 {ev : Operand → Value} {o : Oper} {w : World} {op : BinOp} {x y : Operand} {xs ys : Array Value} {v : Value} (hop : o.op = .binOp op 26 x y 26) (hx : ev x = .agg xs) (hy : ev y = .agg ys) (h : (binOp op 26 (.agg xs) (.agg ys)).run Try.prog w = .ok v w) : (execOp ev o).run Try.prog w = .ok (.value v) w := by
  have e : (eqGuard op 26 x y (.agg xs) (.agg ys)).run Try.prog w = .ok () w := run_eqGuard_agg w op 26 x y xs ys (by kernel_rfl)
  simp [execOp, hop, hx, hy, e, h, Result.andThen]
namespace Mem
def exL : List St := [⟨4, 30, 10, 50⟩, ⟨2, 20, 20, 30⟩, ⟨9, 40, 30, 60⟩]
def exO : Opt := ⟨3, 0, 0, 0, 5, 9, 0, 7, [⟨0, 9, 12⟩, ⟨0, 20, 25⟩]⟩
end Mem
set_option maxRecDepth 1000000 in
set_option maxHeartbeats 4000000 in
theorem sane_c (w : World) : Calls Try.prog 10 #[] w fun e w' => e = .returned (.bool true) ∧ Ext w w' := by
  refine calls_cw 228 [] Try.func10 rfl Try.ntmps10 (by kernel_rfl) (by kernel_rfl) (fun L => ?_)
  have hE : Ext w w := Ext.refl w
  refine cw_seq ?_
  refine cw_plain ?_
  refine pT (.bool false) ?_
  refine pl_nil ?_
  refine qw_then ?_
  refine cw_seq ?_
  refine cw_plain ?_
  refine pT (.agg #[.int .i64 10, .int .i64 50]) ?_
  refine pT (.agg #[.int .i64 4, .int .i64 30, .int .i64 10, .int .i64 50]) ?_
  refine pT (.agg #[.int .i64 20, .int .i64 30]) ?_
  refine pT (.agg #[.int .i64 2, .int .i64 20, .int .i64 20, .int .i64 30]) ?_
  refine pT (.agg #[.int .i64 30, .int .i64 60]) ?_
  refine pT (.agg #[.int .i64 9, .int .i64 40, .int .i64 30, .int .i64 60]) ?_
  refine pl_step rfl (by kernel_rfl) (by kernel_rfl) (by kernel_rfl) (sn_newS (us := #[.int .i64 4, .int .i64 30, .int .i64 10, .int .i64 50, .int .i64 2, .int .i64 20, .int .i64 20, .int .i64 30, .int .i64 9, .int .i64 40, .int .i64 30, .int .i64 60]) (t := 26) (k := 3) (c := 3) (by kernel_rfl) ?_)
  intro O5 X6 hO hOs hb hbx
  have hzO5 := hO; have hyO5 := hOs; clear hO hOs
  have bO5_0 : BoxAt X6 O5 0 (.int .i64 4) := hbx 0 _ rfl
  have bO5_1 : BoxAt X6 O5 1 (.int .i64 30) := hbx 1 _ rfl
  have bO5_2 : BoxAt X6 O5 2 (.int .i64 10) := hbx 2 _ rfl
  have bO5_3 : BoxAt X6 O5 3 (.int .i64 50) := hbx 3 _ rfl
  have bO5_4 : BoxAt X6 O5 4 (.int .i64 2) := hbx 4 _ rfl
  have bO5_5 : BoxAt X6 O5 5 (.int .i64 20) := hbx 5 _ rfl
  have bO5_6 : BoxAt X6 O5 6 (.int .i64 20) := hbx 6 _ rfl
  have bO5_7 : BoxAt X6 O5 7 (.int .i64 30) := hbx 7 _ rfl
  have bO5_8 : BoxAt X6 O5 8 (.int .i64 9) := hbx 8 _ rfl
  have bO5_9 : BoxAt X6 O5 9 (.int .i64 40) := hbx 9 _ rfl
  have bO5_10 : BoxAt X6 O5 10 (.int .i64 30) := hbx 10 _ rfl
  have bO5_11 : BoxAt X6 O5 11 (.int .i64 60) := hbx 11 _ rfl
  clear hbx
  replace hE := hE.trans hb
  have hs7 := hb.size
  clear hb
  have lt8 := bO5_0.lt
  refine pT (.slice (some ⟨O5, 0, none⟩) 3 3) ?_
  refine pl_nil ?_
  refine qw_then ?_
  refine cw_seq ?_
  have hL : StsAt X6 (some ⟨O5, 0, none⟩) 3 Mem.exL := sts3 ⟨bO5_0.1, bO5_1.1, bO5_2.1, bO5_3.1⟩ ⟨bO5_4.1, bO5_5.1, bO5_6.1, bO5_7.1⟩ ⟨bO5_8.1, bO5_9.1, bO5_10.1, bO5_11.1⟩
  have hX9 : Ext X6 X6 := Ext.refl _
  refine cw_plain ?_
  refine pT (.slice (some ⟨O5, 0, none⟩) 3 3) ?_
  refine pl_step rfl (by kernel_rfl) (by kernel_rfl) (by kernel_rfl) (sn_call (f := 20) (args := #[.slice (some ⟨O5, 0, none⟩) 3 3, .int .i64 9]) (by kernel_rfl) (((cast_ret (v' := .tuple #[.int .i64 0, .int .i64 0]) (Fill_c 9 _ _ hL (Ext.refl _)) (by kernel_rfl))).mono ?_))
  rintro e w10 ⟨rfl, hb⟩
  replace hE := hE.trans hb
  replace hX9 := hX9.trans hb
  have hs11 := hb.size
  clear hb
  refine ⟨_, rfl, ?_⟩
  refine pT (.tuple #[.int .i64 0, .int .i64 0]) ?_
  refine pT (.int .i64 0) ?_
  refine pT (.int .i64 0) ?_
  refine pT (.int .i64 0) ?_
  refine pT (.int .i64 0) ?_
  refine pl_nil ?_
  refine qw_then ?_
  refine cw_clean [1, 2, 3] (ws' := [(1, .slice (some ⟨O5, 0, none⟩) 3 3), (2, .int .i64 0), (3, .int .i64 0)]) (by kernel_rfl) (fun L => ?_)
  refine cw_seq ?_
  refine cw_plain ?_
  refine pT (.slice (some ⟨O5, 0, none⟩) 3 3) ?_
  refine pl_step rfl (by kernel_rfl) (by kernel_rfl) (by kernel_rfl) (sn_call (f := 20) (args := #[.slice (some ⟨O5, 0, none⟩) 3 3, .int .i64 20]) (by kernel_rfl) (((cast_ret (v' := .tuple #[.int .i64 50, .int .i64 0]) (Fill_c 20 _ _ hL hX9) (by kernel_rfl))).mono ?_))
  rintro e w12 ⟨rfl, hb⟩
  replace hE := hE.trans hb
  replace hX9 := hX9.trans hb
  have hs13 := hb.size
  clear hb
  refine ⟨_, rfl, ?_⟩
  refine pT (.tuple #[.int .i64 50, .int .i64 0]) ?_
  refine pT (.int .i64 50) ?_
  refine pT (.int .i64 0) ?_
  refine pT (.int .i64 50) ?_
  refine pT (.int .i64 0) ?_
  refine pl_nil ?_
  refine qw_then ?_
  refine cw_seq ?_
  refine cw_plain ?_
  refine pT (.slice (some ⟨O5, 0, none⟩) 3 3) ?_
  refine pl_step rfl (by kernel_rfl) (by kernel_rfl) (by kernel_rfl) (sn_call (f := 20) (args := #[.slice (some ⟨O5, 0, none⟩) 3 3, .int .i64 30]) (by kernel_rfl) (((cast_ret (v' := .tuple #[.int .i64 70, .int .i64 0]) (Fill_c 30 _ _ hL hX9) (by kernel_rfl))).mono ?_))
  rintro e w14 ⟨rfl, hb⟩
  replace hE := hE.trans hb
  replace hX9 := hX9.trans hb
  have hs15 := hb.size
  clear hb
  refine ⟨_, rfl, ?_⟩
  refine pT (.tuple #[.int .i64 70, .int .i64 0]) ?_
  refine pT (.int .i64 70) ?_
  refine pT (.int .i64 0) ?_
  refine pT (.int .i64 70) ?_
  refine pT (.int .i64 0) ?_
  refine pl_nil ?_
  refine qw_then ?_
  refine cw_clean [1, 2, 3, 4, 5, 6, 7] (ws' := [(1, .slice (some ⟨O5, 0, none⟩) 3 3), (2, .int .i64 0), (3, .int .i64 0), (4, .int .i64 50), (5, .int .i64 0), (6, .int .i64 70), (7, .int .i64 0)]) (by kernel_rfl) (fun L => ?_)
  refine cw_seq ?_
  refine cw_plain ?_
  refine pT (.slice (some ⟨O5, 0, none⟩) 3 3) ?_
  refine pl_step rfl (by kernel_rfl) (by kernel_rfl) (by kernel_rfl) (sn_call (f := 20) (args := #[.slice (some ⟨O5, 0, none⟩) 3 3, .int .i64 50]) (by kernel_rfl) (((cast_ret (v' := .tuple #[.int .i64 40, .int .i64 0]) (Fill_c 50 _ _ hL hX9) (by kernel_rfl))).mono ?_))
  rintro e w16 ⟨rfl, hb⟩
  replace hE := hE.trans hb
  replace hX9 := hX9.trans hb
  have hs17 := hb.size
  clear hb
  refine ⟨_, rfl, ?_⟩
  refine pT (.tuple #[.int .i64 40, .int .i64 0]) ?_
  refine pT (.int .i64 40) ?_
  refine pT (.int .i64 0) ?_
  refine pT (.int .i64 40) ?_
  refine pT (.int .i64 0) ?_
  refine pl_nil ?_
  refine qw_then ?_
  refine cw_seq ?_
  refine cw_plain ?_
  refine pT (.slice (some ⟨O5, 0, none⟩) 3 3) ?_
  refine pl_step rfl (by kernel_rfl) (by kernel_rfl) (by kernel_rfl) (sn_call (f := 13) (args := #[.slice (some ⟨O5, 0, none⟩) 3 3]) (by kernel_rfl) (((cast_ret (v' := .tuple #[.int .i64 70, .int .i64 30, .int .i64 0]) (Most_c _ _ hL hX9) (by kernel_rfl))).mono ?_))
  rintro e w18 ⟨rfl, hb⟩
  replace hE := hE.trans hb
  replace hX9 := hX9.trans hb
  have hs19 := hb.size
  clear hb
  refine ⟨_, rfl, ?_⟩
  refine pT (.tuple #[.int .i64 70, .int .i64 30, .int .i64 0]) ?_
  refine pT (.int .i64 70) ?_
  refine pT (.int .i64 30) ?_
  refine pT (.int .i64 0) ?_
  refine pT (.int .i64 70) ?_
  refine pT (.int .i64 30) ?_
  refine pT (.int .i64 0) ?_
  refine pl_nil ?_
  refine qw_then ?_
  refine cw_clean [1, 2, 3, 4, 5, 6, 7, 8, 9, 10, 11, 12] (ws' := [(1, .slice (some ⟨O5, 0, none⟩) 3 3), (2, .int .i64 0), (3, .int .i64 0), (4, .int .i64 50), (5, .int .i64 0), (6, .int .i64 70), (7, .int .i64 0), (8, .int .i64 40), (9, .int .i64 0), (10, .int .i64 70), (11, .int .i64 30), (12, .int .i64 0)]) (by kernel_rfl) (fun L => ?_)
  refine cw_seq ?_
  refine cw_plain ?_
  refine pT (.slice (some ⟨O5, 0, none⟩) 3 3) ?_
  refine pl_step rfl (by kernel_rfl) (by kernel_rfl) (by kernel_rfl) (sn_call (f := 22) (args := #[.slice (some ⟨O5, 0, none⟩) 3 3, .int .i64 50]) (by kernel_rfl) (((cast_ret (v' := .tuple #[.int .i64 30, .int .i64 0]) (Over_c 50 _ _ hL hX9) (by kernel_rfl))).mono ?_))
  rintro e w20 ⟨rfl, hb⟩
  replace hE := hE.trans hb
  replace hX9 := hX9.trans hb
  have hs21 := hb.size
  clear hb
  refine ⟨_, rfl, ?_⟩
  refine pT (.tuple #[.int .i64 30, .int .i64 0]) ?_
  refine pT (.int .i64 30) ?_
  refine pT (.int .i64 0) ?_
  refine pT (.int .i64 30) ?_
  refine pT (.int .i64 0) ?_
  refine pl_nil ?_
  refine qw_then ?_
  refine cw_clean [1, 2, 3, 4, 5, 6, 7, 8, 9, 10, 11, 12, 13, 14] (ws' := [(1, .slice (some ⟨O5, 0, none⟩) 3 3), (2, .int .i64 0), (3, .int .i64 0), (4, .int .i64 50), (5, .int .i64 0), (6, .int .i64 70), (7, .int .i64 0), (8, .int .i64 40), (9, .int .i64 0), (10, .int .i64 70), (11, .int .i64 30), (12, .int .i64 0), (13, .int .i64 30), (14, .int .i64 0)]) (by kernel_rfl) (fun L => ?_)
  refine cw_seq ?_
  refine cw_plain ?_
  refine pT (.slice (some ⟨O5, 0, none⟩) 3 3) ?_
  refine pl_step rfl (by kernel_rfl) (by kernel_rfl) (by kernel_rfl) (sn_call (f := 22) (args := #[.slice (some ⟨O5, 0, none⟩) 3 3, .int .i64 70]) (by kernel_rfl) (((cast_ret (v' := .tuple #[.int .i64 (-1 : Int), .int .i64 0]) (Over_c 70 _ _ hL hX9) (by kernel_rfl))).mono ?_))
  rintro e w22 ⟨rfl, hb⟩
  replace hE := hE.trans hb
  replace hX9 := hX9.trans hb
  have hs23 := hb.size
  clear hb
  refine ⟨_, rfl, ?_⟩
  refine pT (.tuple #[.int .i64 (-1 : Int), .int .i64 0]) ?_
  refine pT (.int .i64 (-1 : Int)) ?_
  refine pT (.int .i64 0) ?_
  refine pT (.int .i64 (-1 : Int)) ?_
  refine pT (.int .i64 0) ?_
  refine pl_nil ?_
  refine qw_then ?_
  refine cw_clean [1, 2, 3, 4, 5, 6, 7, 8, 9, 10, 11, 12, 13, 14, 15, 16] (ws' := [(1, .slice (some ⟨O5, 0, none⟩) 3 3), (2, .int .i64 0), (3, .int .i64 0), (4, .int .i64 50), (5, .int .i64 0), (6, .int .i64 70), (7, .int .i64 0), (8, .int .i64 40), (9, .int .i64 0), (10, .int .i64 70), (11, .int .i64 30), (12, .int .i64 0), (13, .int .i64 30), (14, .int .i64 0), (15, .int .i64 (-1 : Int)), (16, .int .i64 0)]) (by kernel_rfl) (fun L => ?_)
  refine cw_seq ?_
  refine cw_plain ?_
  refine pT (.slice (some ⟨O5, 0, none⟩) 3 3) ?_
  refine pl_step rfl (by kernel_rfl) (by kernel_rfl) (by kernel_rfl) (sn_call (f := 15) (args := #[.slice (some ⟨O5, 0, none⟩) 3 3]) (by kernel_rfl) ((cast_rows (S' := [[0, 1], [0, 2]]) (er' := 0) (Rows_c _ _ hL hX9) (by kernel_rfl) (by kernel_rfl)).mono ?_))
  rintro e w27 ⟨ra24, rk25, rc26, rfl, hrw, hb⟩
  replace hE := hE.trans hb
  replace hX9 := hX9.trans hb
  have hs28 := hb.size
  clear hb
  have hX29 : Ext w27 w27 := Ext.refl _
  refine ⟨_, rfl, ?_⟩
  refine pT (.tuple #[.slice ra24 rk25 rc26, .int .i64 0]) ?_
  refine pT (.slice ra24 rk25 rc26) ?_
  refine pT (.int .i64 0) ?_
  refine pT (.slice ra24 rk25 rc26) ?_
  refine pT (.int .i64 0) ?_
  refine pl_nil ?_
  refine qw_then ?_
  refine cw_clean [1, 2, 3, 4, 5, 6, 7, 8, 9, 10, 11, 12, 13, 14, 15, 16, 17, 18] (ws' := [(1, .slice (some ⟨O5, 0, none⟩) 3 3), (2, .int .i64 0), (3, .int .i64 0), (4, .int .i64 50), (5, .int .i64 0), (6, .int .i64 70), (7, .int .i64 0), (8, .int .i64 40), (9, .int .i64 0), (10, .int .i64 70), (11, .int .i64 30), (12, .int .i64 0), (13, .int .i64 30), (14, .int .i64 0), (15, .int .i64 (-1 : Int)), (16, .int .i64 0), (17, .slice ra24 rk25 rc26), (18, .int .i64 0)]) (by kernel_rfl) (fun L => ?_)
  refine cw_seq ?_
  refine cw_plain ?_
  refine pT (.slice (some ⟨O5, 0, none⟩) 3 3) ?_
  refine pT (.agg #[.int .i64 20, .int .i64 31]) ?_
  refine pl_step rfl (by kernel_rfl) (by kernel_rfl) (by kernel_rfl) (sn_call (f := 24) (args := #[.slice (some ⟨O5, 0, none⟩) 3 3, .int .i64 80, .agg #[.int .i64 20, .int .i64 31]]) (by kernel_rfl) (((cast_ret (v' := .tuple #[.int .i64 10, .int .i64 0]) (Room_c 80 20 31 _ _ hL hX9) (by kernel_rfl))).mono ?_))
  rintro e w30 ⟨rfl, hb⟩
  replace hE := hE.trans hb
  replace hX9 := hX9.trans hb
  replace hX29 := hX29.trans hb
  have hs31 := hb.size
  clear hb
  refine ⟨_, rfl, ?_⟩
  refine pT (.tuple #[.int .i64 10, .int .i64 0]) ?_
  refine pT (.int .i64 10) ?_
  refine pT (.int .i64 0) ?_
  refine pT (.int .i64 10) ?_
  refine pT (.int .i64 0) ?_
  refine pl_nil ?_
  refine qw_then ?_
  refine cw_clean [1, 2, 3, 4, 5, 6, 7, 8, 9, 10, 11, 12, 13, 14, 15, 16, 17, 18, 19, 20] (ws' := [(1, .slice (some ⟨O5, 0, none⟩) 3 3), (2, .int .i64 0), (3, .int .i64 0), (4, .int .i64 50), (5, .int .i64 0), (6, .int .i64 70), (7, .int .i64 0), (8, .int .i64 40), (9, .int .i64 0), (10, .int .i64 70), (11, .int .i64 30), (12, .int .i64 0), (13, .int .i64 30), (14, .int .i64 0), (15, .int .i64 (-1 : Int)), (16, .int .i64 0), (17, .slice ra24 rk25 rc26), (18, .int .i64 0), (19, .int .i64 10), (20, .int .i64 0)]) (by kernel_rfl) (fun L => ?_)
  refine cw_seq ?_
  refine cw_plain ?_
  refine pT (.slice (some ⟨O5, 0, none⟩) 3 3) ?_
  refine pl_step rfl (by kernel_rfl) (by kernel_rfl) (by kernel_rfl) (sn_call (f := 20) (args := #[.slice (some ⟨O5, 0, none⟩) 3 3, .int .i64 (-1 : Int)]) (by kernel_rfl) (((cast_ret (v' := .tuple #[.int .i64 0, .int .i64 110]) (Fill_c (-1) _ _ hL hX9) (by kernel_rfl))).mono ?_))
  rintro e w32 ⟨rfl, hb⟩
  replace hE := hE.trans hb
  replace hX9 := hX9.trans hb
  replace hX29 := hX29.trans hb
  have hs33 := hb.size
  clear hb
  refine ⟨_, rfl, ?_⟩
  refine pT (.tuple #[.int .i64 0, .int .i64 110]) ?_
  refine pT (.int .i64 0) ?_
  refine pT (.int .i64 110) ?_
  refine pT (.int .i64 0) ?_
  refine pT (.int .i64 110) ?_
  refine pl_nil ?_
  refine qw_then ?_
  refine cw_clean [1, 2, 3, 4, 5, 6, 7, 8, 9, 10, 11, 12, 13, 14, 15, 16, 17, 18, 19, 20, 22] (ws' := [(1, .slice (some ⟨O5, 0, none⟩) 3 3), (2, .int .i64 0), (3, .int .i64 0), (4, .int .i64 50), (5, .int .i64 0), (6, .int .i64 70), (7, .int .i64 0), (8, .int .i64 40), (9, .int .i64 0), (10, .int .i64 70), (11, .int .i64 30), (12, .int .i64 0), (13, .int .i64 30), (14, .int .i64 0), (15, .int .i64 (-1 : Int)), (16, .int .i64 0), (17, .slice ra24 rk25 rc26), (18, .int .i64 0), (19, .int .i64 10), (20, .int .i64 0), (22, .int .i64 110)]) (by kernel_rfl) (fun L => ?_)
  refine cw_seq ?_
  refine cw_plain ?_
  refine pT (.agg #[.int .i64 5, .int .i64 9]) ?_
  refine pT (.agg #[.int .i64 9, .int .i64 12]) ?_
  refine pT (.agg #[.int .i64 0, .int .i64 9, .int .i64 12]) ?_
  refine pT (.agg #[.int .i64 20, .int .i64 25]) ?_
  refine pT (.agg #[.int .i64 0, .int .i64 20, .int .i64 25]) ?_
  refine pl_step rfl (by kernel_rfl) (by kernel_rfl) (by kernel_rfl) (sn_newS (us := #[.int .i64 0, .int .i64 9, .int .i64 12, .int .i64 0, .int .i64 20, .int .i64 25]) (t := 61) (k := 2) (c := 2) (by kernel_rfl) ?_)
  intro O34 X35 hO hOs hb hbx
  have hzO34 := hO; have hyO34 := hOs; clear hO hOs
  have bO34_0 : BoxAt X35 O34 0 (.int .i64 0) := hbx 0 _ rfl
  have bO34_1 : BoxAt X35 O34 1 (.int .i64 9) := hbx 1 _ rfl
  have bO34_2 : BoxAt X35 O34 2 (.int .i64 12) := hbx 2 _ rfl
  have bO34_3 : BoxAt X35 O34 3 (.int .i64 0) := hbx 3 _ rfl
  have bO34_4 : BoxAt X35 O34 4 (.int .i64 20) := hbx 4 _ rfl
  have bO34_5 : BoxAt X35 O34 5 (.int .i64 25) := hbx 5 _ rfl
  clear hbx
  replace hE := hE.trans hb
  replace hX9 := hX9.trans hb
  replace hX29 := hX29.trans hb
  have hs36 := hb.size
  clear hb
  have lt37 := bO34_0.lt
  refine pT (.agg #[.int .i64 3, .int .i64 0, .int .i64 0, .int .i64 0, .int .i64 5, .int .i64 9, .int .i64 0, .int .i64 7, .slice (some ⟨O34, 0, none⟩) 2 2]) ?_
  refine pl_step rfl (by kernel_rfl) (by kernel_rfl) (by kernel_rfl) (sn_new (us := #[.int .i64 0, .int .i64 0, .int .i64 0, .int .i64 0, .int .i64 0, .int .i64 0, .int .i64 0, .int .i64 0, .slice none 0 0]) (t := 31) (by kernel_rfl) ?_)
  intro O38 X39 hO hOs hb hbx
  have hzO38 := hO; have hyO38 := hOs; clear hO hOs
  have bO38_0 : BoxAt X39 O38 0 (.int .i64 0) := hbx 0 _ rfl
  have bO38_1 : BoxAt X39 O38 1 (.int .i64 0) := hbx 1 _ rfl
  have bO38_2 : BoxAt X39 O38 2 (.int .i64 0) := hbx 2 _ rfl
  have bO38_3 : BoxAt X39 O38 3 (.int .i64 0) := hbx 3 _ rfl
  have bO38_4 : BoxAt X39 O38 4 (.int .i64 0) := hbx 4 _ rfl
  have bO38_5 : BoxAt X39 O38 5 (.int .i64 0) := hbx 5 _ rfl
  have bO38_6 : BoxAt X39 O38 6 (.int .i64 0) := hbx 6 _ rfl
  have bO38_7 : BoxAt X39 O38 7 (.int .i64 0) := hbx 7 _ rfl
  have bO38_8 : BoxAt X39 O38 8 (.slice none 0 0) := hbx 8 _ rfl
  clear hbx
  replace hE := hE.trans hb
  replace hX9 := hX9.trans hb
  replace hX29 := hX29.trans hb
  replace bO34_0 := BoxAt.ext hb bO34_0
  replace bO34_1 := BoxAt.ext hb bO34_1
  replace bO34_2 := BoxAt.ext hb bO34_2
  replace bO34_3 := BoxAt.ext hb bO34_3
  replace bO34_4 := BoxAt.ext hb bO34_4
  replace bO34_5 := BoxAt.ext hb bO34_5
  have hs40 := hb.size
  clear hb
  have lt41 := bO38_0.lt
  refine pl_put rfl (by kernel_rfl) (by kernel_rfl) (sn_setK9 (O := O38) (j := 0) (v0 := .int .i64 3) (v1 := .int .i64 0) (v2 := .int .i64 0) (v3 := .int .i64 0) (v4 := .int .i64 5) (v5 := .int .i64 9) (v6 := .int .i64 0) (v7 := .int .i64 7) (v8 := .slice (some ⟨O34, 0, none⟩) 2 2) (ex_store (p := .pointer (some ⟨O38, 0, none⟩)) (v := .agg #[.int .i64 3, .int .i64 0, .int .i64 0, .int .i64 0, .int .i64 5, .int .i64 9, .int .i64 0, .int .i64 7, .slice (some ⟨O34, 0, none⟩) 2 2]) rfl (by kernel_rfl) (by kernel_rfl) (st31 bO38_0.1 bO38_0.2 bO38_1.1 bO38_1.2 bO38_2.1 bO38_2.2 bO38_3.1 bO38_3.2 bO38_4.1 bO38_4.2 bO38_5.1 bO38_5.2 bO38_6.1 bO38_6.2 bO38_7.1 bO38_7.2 bO38_8.1 bO38_8.2)) bO38_0 bO38_1 bO38_2 bO38_3 bO38_4 bO38_5 bO38_6 bO38_7 bO38_8 ?_)
  intro X42 ho hv0 hv1 hv2 hv3 hv4 hv5 hv6 hv7 hv8 hk
  replace hE := ho.ext hE (Nat.le_trans (Nat.le_trans hs7 (Nat.le_trans hs11 (Nat.le_trans hs13 (Nat.le_trans hs15 (Nat.le_trans hs17 (Nat.le_trans hs19 (Nat.le_trans hs21 (Nat.le_trans hs23 (Nat.le_trans hs28 (Nat.le_trans hs31 (Nat.le_trans hs33 hs36))))))))))) (Nat.le_of_eq hzO38))
  replace hX9 := ho.ext hX9 (Nat.le_trans (Nat.le_trans hs11 (Nat.le_trans hs13 (Nat.le_trans hs15 (Nat.le_trans hs17 (Nat.le_trans hs19 (Nat.le_trans hs21 (Nat.le_trans hs23 (Nat.le_trans hs28 (Nat.le_trans hs31 (Nat.le_trans hs33 hs36)))))))))) (Nat.le_of_eq hzO38))
  replace hX29 := ho.ext hX29 (Nat.le_trans (Nat.le_trans hs31 (Nat.le_trans hs33 hs36)) (Nat.le_of_eq hzO38))
  replace bO34_0 := ho.box (Nat.ne_of_gt (Nat.lt_of_lt_of_le lt37 (Nat.le_of_eq hzO38))) bO34_0
  replace bO34_1 := ho.box (Nat.ne_of_gt (Nat.lt_of_lt_of_le lt37 (Nat.le_of_eq hzO38))) bO34_1
  replace bO34_2 := ho.box (Nat.ne_of_gt (Nat.lt_of_lt_of_le lt37 (Nat.le_of_eq hzO38))) bO34_2
  replace bO34_3 := ho.box (Nat.ne_of_gt (Nat.lt_of_lt_of_le lt37 (Nat.le_of_eq hzO38))) bO34_3
  replace bO34_4 := ho.box (Nat.ne_of_gt (Nat.lt_of_lt_of_le lt37 (Nat.le_of_eq hzO38))) bO34_4
  replace bO34_5 := ho.box (Nat.ne_of_gt (Nat.lt_of_lt_of_le lt37 (Nat.le_of_eq hzO38))) bO34_5
  have hs43 : X39.heap.size ≤ X42.heap.size := Nat.le_of_eq ho.size.symm
  clear ho hk bO38_0 bO38_1 bO38_2 bO38_3 bO38_4 bO38_5 bO38_6 bO38_7 bO38_8
  have bO38_0 := hv0; clear hv0
  have bO38_1 := hv1; clear hv1
  have bO38_2 := hv2; clear hv2
  have bO38_3 := hv3; clear hv3
  have bO38_4 := hv4; clear hv4
  have bO38_5 := hv5; clear hv5
  have bO38_6 := hv6; clear hv6
  have bO38_7 := hv7; clear hv7
  have bO38_8 := hv8; clear hv8
  refine pl_nil ?_
  refine qw_then ?_
  refine cw_clean [1, 2, 3, 4, 5, 6, 7, 8, 9, 10, 11, 12, 13, 14, 15, 16, 17, 18, 19, 20, 22, 23] (ws' := [(1, .slice (some ⟨O5, 0, none⟩) 3 3), (2, .int .i64 0), (3, .int .i64 0), (4, .int .i64 50), (5, .int .i64 0), (6, .int .i64 70), (7, .int .i64 0), (8, .int .i64 40), (9, .int .i64 0), (10, .int .i64 70), (11, .int .i64 30), (12, .int .i64 0), (13, .int .i64 30), (14, .int .i64 0), (15, .int .i64 (-1 : Int)), (16, .int .i64 0), (17, .slice ra24 rk25 rc26), (18, .int .i64 0), (19, .int .i64 10), (20, .int .i64 0), (22, .int .i64 110), (23, .pointer (some ⟨O38, 0, none⟩))]) (by kernel_rfl) (fun L => ?_)
  refine cw_seq ?_
  have hO : SlsAt X42 (some ⟨O34, 0, none⟩) 2 Mem.exO.sl := sls2 ⟨bO34_0.1, bO34_1.1, bO34_2.1⟩ ⟨bO34_3.1, bO34_4.1, bO34_5.1⟩
  have hX44 : Ext X42 X42 := Ext.refl _
  refine cw_plain ?_
  refine pl_take (.agg #[.int .i64 3, .int .i64 0, .int .i64 0, .int .i64 0, .int .i64 5, .int .i64 9, .int .i64 0, .int .i64 7, .slice (some ⟨O34, 0, none⟩) 2 2]) rfl (by kernel_rfl) (by kernel_rfl) (by kernel_rfl) (ex_load rfl (by kernel_rfl) (ld31 (bO38_0.1) (bO38_1.1) (bO38_2.1) (bO38_3.1) (bO38_4.1) (bO38_5.1) (bO38_6.1) (bO38_7.1) (bO38_8.1))) ?_
  refine pl_step rfl (by kernel_rfl) (by kernel_rfl) (by kernel_rfl) (sn_call (f := 28) (args := #[.agg #[.int .i64 3, .int .i64 0, .int .i64 0, .int .i64 0, .int .i64 5, .int .i64 9, .int .i64 0, .int .i64 7, .slice (some ⟨O34, 0, none⟩) 2 2]]) (by kernel_rfl) (((cast_ret (v' := .tuple #[.agg #[.int .i64 3, .int .i64 7, .int .i64 5, .int .i64 25], .int .i64 0]) (Worst_c (o := Mem.exO) _ _ hO (Ext.refl _)) (by kernel_rfl))).mono ?_))
  rintro e w45 ⟨rfl, hb⟩
  replace hE := hE.trans hb
  replace hX9 := hX9.trans hb
  replace hX29 := hX29.trans hb
  replace hX44 := hX44.trans hb
  replace bO38_0 := BoxAt.ext hb bO38_0
  replace bO38_1 := BoxAt.ext hb bO38_1
  replace bO38_2 := BoxAt.ext hb bO38_2
  replace bO38_3 := BoxAt.ext hb bO38_3
  replace bO38_4 := BoxAt.ext hb bO38_4
  replace bO38_5 := BoxAt.ext hb bO38_5
  replace bO38_6 := BoxAt.ext hb bO38_6
  replace bO38_7 := BoxAt.ext hb bO38_7
  replace bO38_8 := BoxAt.ext hb bO38_8
  have hs46 := hb.size
  clear hb
  refine ⟨_, rfl, ?_⟩
  refine pT (.tuple #[.agg #[.int .i64 3, .int .i64 7, .int .i64 5, .int .i64 25], .int .i64 0]) ?_
  refine pT (.agg #[.int .i64 3, .int .i64 7, .int .i64 5, .int .i64 25]) ?_
  refine pT (.int .i64 0) ?_
  refine pl_step rfl (by kernel_rfl) (by kernel_rfl) (by kernel_rfl) (sn_new (us := #[.int .i64 0, .int .i64 0, .int .i64 0, .int .i64 0]) (t := 26) (by kernel_rfl) ?_)
  intro O47 X48 hO hOs hb hbx
  have hzO47 := hO; have hyO47 := hOs; clear hO hOs
  have bO47_0 : BoxAt X48 O47 0 (.int .i64 0) := hbx 0 _ rfl
  have bO47_1 : BoxAt X48 O47 1 (.int .i64 0) := hbx 1 _ rfl
  have bO47_2 : BoxAt X48 O47 2 (.int .i64 0) := hbx 2 _ rfl
  have bO47_3 : BoxAt X48 O47 3 (.int .i64 0) := hbx 3 _ rfl
  clear hbx
  replace hE := hE.trans hb
  replace hX9 := hX9.trans hb
  replace hX29 := hX29.trans hb
  replace hX44 := hX44.trans hb
  replace bO38_0 := BoxAt.ext hb bO38_0
  replace bO38_1 := BoxAt.ext hb bO38_1
  replace bO38_2 := BoxAt.ext hb bO38_2
  replace bO38_3 := BoxAt.ext hb bO38_3
  replace bO38_4 := BoxAt.ext hb bO38_4
  replace bO38_5 := BoxAt.ext hb bO38_5
  replace bO38_6 := BoxAt.ext hb bO38_6
  replace bO38_7 := BoxAt.ext hb bO38_7
  replace bO38_8 := BoxAt.ext hb bO38_8
  have hs49 := hb.size
  clear hb
  have lt50 := bO47_0.lt
  refine pl_put rfl (by kernel_rfl) (by kernel_rfl) (sn_setK4 (O := O47) (j := 0) (v0 := .int .i64 3) (v1 := .int .i64 7) (v2 := .int .i64 5) (v3 := .int .i64 25) (ex_store (p := .pointer (some ⟨O47, 0, none⟩)) (v := .agg #[.int .i64 3, .int .i64 7, .int .i64 5, .int .i64 25]) rfl (by kernel_rfl) (by kernel_rfl) (st26 bO47_0.1 bO47_0.2 bO47_1.1 bO47_1.2 bO47_2.1 bO47_2.2 bO47_3.1 bO47_3.2)) bO47_0 bO47_1 bO47_2 bO47_3 ?_)
  intro X51 ho hv0 hv1 hv2 hv3 hk
  replace hE := ho.ext hE (Nat.le_trans (Nat.le_trans hs7 (Nat.le_trans hs11 (Nat.le_trans hs13 (Nat.le_trans hs15 (Nat.le_trans hs17 (Nat.le_trans hs19 (Nat.le_trans hs21 (Nat.le_trans hs23 (Nat.le_trans hs28 (Nat.le_trans hs31 (Nat.le_trans hs33 (Nat.le_trans hs36 (Nat.le_trans hs40 (Nat.le_trans hs43 hs46)))))))))))))) (Nat.le_of_eq hzO47))
  replace hX9 := ho.ext hX9 (Nat.le_trans (Nat.le_trans hs11 (Nat.le_trans hs13 (Nat.le_trans hs15 (Nat.le_trans hs17 (Nat.le_trans hs19 (Nat.le_trans hs21 (Nat.le_trans hs23 (Nat.le_trans hs28 (Nat.le_trans hs31 (Nat.le_trans hs33 (Nat.le_trans hs36 (Nat.le_trans hs40 (Nat.le_trans hs43 hs46))))))))))))) (Nat.le_of_eq hzO47))
  replace hX29 := ho.ext hX29 (Nat.le_trans (Nat.le_trans hs31 (Nat.le_trans hs33 (Nat.le_trans hs36 (Nat.le_trans hs40 (Nat.le_trans hs43 hs46))))) (Nat.le_of_eq hzO47))
  replace hX44 := ho.ext hX44 (Nat.le_trans hs46 (Nat.le_of_eq hzO47))
  replace bO38_0 := ho.box (Nat.ne_of_gt (Nat.lt_of_lt_of_le lt41 (Nat.le_trans (Nat.le_trans hs43 hs46) (Nat.le_of_eq hzO47)))) bO38_0
  replace bO38_1 := ho.box (Nat.ne_of_gt (Nat.lt_of_lt_of_le lt41 (Nat.le_trans (Nat.le_trans hs43 hs46) (Nat.le_of_eq hzO47)))) bO38_1
  replace bO38_2 := ho.box (Nat.ne_of_gt (Nat.lt_of_lt_of_le lt41 (Nat.le_trans (Nat.le_trans hs43 hs46) (Nat.le_of_eq hzO47)))) bO38_2
  replace bO38_3 := ho.box (Nat.ne_of_gt (Nat.lt_of_lt_of_le lt41 (Nat.le_trans (Nat.le_trans hs43 hs46) (Nat.le_of_eq hzO47)))) bO38_3
  replace bO38_4 := ho.box (Nat.ne_of_gt (Nat.lt_of_lt_of_le lt41 (Nat.le_trans (Nat.le_trans hs43 hs46) (Nat.le_of_eq hzO47)))) bO38_4
  replace bO38_5 := ho.box (Nat.ne_of_gt (Nat.lt_of_lt_of_le lt41 (Nat.le_trans (Nat.le_trans hs43 hs46) (Nat.le_of_eq hzO47)))) bO38_5
  replace bO38_6 := ho.box (Nat.ne_of_gt (Nat.lt_of_lt_of_le lt41 (Nat.le_trans (Nat.le_trans hs43 hs46) (Nat.le_of_eq hzO47)))) bO38_6
  replace bO38_7 := ho.box (Nat.ne_of_gt (Nat.lt_of_lt_of_le lt41 (Nat.le_trans (Nat.le_trans hs43 hs46) (Nat.le_of_eq hzO47)))) bO38_7
  replace bO38_8 := ho.box (Nat.ne_of_gt (Nat.lt_of_lt_of_le lt41 (Nat.le_trans (Nat.le_trans hs43 hs46) (Nat.le_of_eq hzO47)))) bO38_8
  have hs52 : X48.heap.size ≤ X51.heap.size := Nat.le_of_eq ho.size.symm
  clear ho hk bO47_0 bO47_1 bO47_2 bO47_3
  have bO47_0 := hv0; clear hv0
  have bO47_1 := hv1; clear hv1
  have bO47_2 := hv2; clear hv2
  have bO47_3 := hv3; clear hv3
  refine pT (.int .i64 0) ?_
  refine pl_nil ?_
  refine qw_then ?_
  refine cw_clean [1, 2, 3, 4, 5, 6, 7, 8, 9, 10, 11, 12, 13, 14, 15, 16, 17, 18, 19, 20, 22, 23, 24, 25] (ws' := [(1, .slice (some ⟨O5, 0, none⟩) 3 3), (2, .int .i64 0), (3, .int .i64 0), (4, .int .i64 50), (5, .int .i64 0), (6, .int .i64 70), (7, .int .i64 0), (8, .int .i64 40), (9, .int .i64 0), (10, .int .i64 70), (11, .int .i64 30), (12, .int .i64 0), (13, .int .i64 30), (14, .int .i64 0), (15, .int .i64 (-1 : Int)), (16, .int .i64 0), (17, .slice ra24 rk25 rc26), (18, .int .i64 0), (19, .int .i64 10), (20, .int .i64 0), (22, .int .i64 110), (23, .pointer (some ⟨O38, 0, none⟩)), (24, .pointer (some ⟨O47, 0, none⟩)), (25, .int .i64 0)]) (by kernel_rfl) (fun L => ?_)
  refine cw_seq ?_
  refine cw_plain ?_
  refine pl_take (.agg #[.int .i64 3, .int .i64 0, .int .i64 0, .int .i64 0, .int .i64 5, .int .i64 9, .int .i64 0, .int .i64 7, .slice (some ⟨O34, 0, none⟩) 2 2]) rfl (by kernel_rfl) (by kernel_rfl) (by kernel_rfl) (ex_load rfl (by kernel_rfl) (ld31 (bO38_0.1) (bO38_1.1) (bO38_2.1) (bO38_3.1) (bO38_4.1) (bO38_5.1) (bO38_6.1) (bO38_7.1) (bO38_8.1))) ?_
  refine pl_step rfl (by kernel_rfl) (by kernel_rfl) (by kernel_rfl) (sn_call (f := 30) (args := #[.agg #[.int .i64 3, .int .i64 0, .int .i64 0, .int .i64 0, .int .i64 5, .int .i64 9, .int .i64 0, .int .i64 7, .slice (some ⟨O34, 0, none⟩) 2 2], .int .i64 0]) (by kernel_rfl) (((cast_ret (v' := .tuple #[.agg #[.int .i64 3, .int .i64 7, .int .i64 5, .int .i64 12], .int .i64 0]) (Freed_c (o := Mem.exO) 0 _ _ hO hX44) (by kernel_rfl))).mono ?_))
  rintro e w53 ⟨rfl, hb⟩
  replace hE := hE.trans hb
  replace hX9 := hX9.trans hb
  replace hX29 := hX29.trans hb
  replace hX44 := hX44.trans hb
  replace bO38_0 := BoxAt.ext hb bO38_0
  replace bO38_1 := BoxAt.ext hb bO38_1
  replace bO38_2 := BoxAt.ext hb bO38_2
  replace bO38_3 := BoxAt.ext hb bO38_3
  replace bO38_4 := BoxAt.ext hb bO38_4
  replace bO38_5 := BoxAt.ext hb bO38_5
  replace bO38_6 := BoxAt.ext hb bO38_6
  replace bO38_7 := BoxAt.ext hb bO38_7
  replace bO38_8 := BoxAt.ext hb bO38_8
  replace bO47_0 := BoxAt.ext hb bO47_0
  replace bO47_1 := BoxAt.ext hb bO47_1
  replace bO47_2 := BoxAt.ext hb bO47_2
  replace bO47_3 := BoxAt.ext hb bO47_3
  have hs54 := hb.size
  clear hb
  refine ⟨_, rfl, ?_⟩
  refine pT (.tuple #[.agg #[.int .i64 3, .int .i64 7, .int .i64 5, .int .i64 12], .int .i64 0]) ?_
  refine pT (.agg #[.int .i64 3, .int .i64 7, .int .i64 5, .int .i64 12]) ?_
  refine pT (.int .i64 0) ?_
  refine pl_step rfl (by kernel_rfl) (by kernel_rfl) (by kernel_rfl) (sn_new (us := #[.int .i64 0, .int .i64 0, .int .i64 0, .int .i64 0]) (t := 26) (by kernel_rfl) ?_)
  intro O55 X56 hO hOs hb hbx
  have hzO55 := hO; have hyO55 := hOs; clear hO hOs
  have bO55_0 : BoxAt X56 O55 0 (.int .i64 0) := hbx 0 _ rfl
  have bO55_1 : BoxAt X56 O55 1 (.int .i64 0) := hbx 1 _ rfl
  have bO55_2 : BoxAt X56 O55 2 (.int .i64 0) := hbx 2 _ rfl
  have bO55_3 : BoxAt X56 O55 3 (.int .i64 0) := hbx 3 _ rfl
  clear hbx
  replace hE := hE.trans hb
  replace hX9 := hX9.trans hb
  replace hX29 := hX29.trans hb
  replace hX44 := hX44.trans hb
  replace bO38_0 := BoxAt.ext hb bO38_0
  replace bO38_1 := BoxAt.ext hb bO38_1
  replace bO38_2 := BoxAt.ext hb bO38_2
  replace bO38_3 := BoxAt.ext hb bO38_3
  replace bO38_4 := BoxAt.ext hb bO38_4
  replace bO38_5 := BoxAt.ext hb bO38_5
  replace bO38_6 := BoxAt.ext hb bO38_6
  replace bO38_7 := BoxAt.ext hb bO38_7
  replace bO38_8 := BoxAt.ext hb bO38_8
  replace bO47_0 := BoxAt.ext hb bO47_0
  replace bO47_1 := BoxAt.ext hb bO47_1
  replace bO47_2 := BoxAt.ext hb bO47_2
  replace bO47_3 := BoxAt.ext hb bO47_3
  have hs57 := hb.size
  clear hb
  have lt58 := bO55_0.lt
  refine pl_put rfl (by kernel_rfl) (by kernel_rfl) (sn_setK4 (O := O55) (j := 0) (v0 := .int .i64 3) (v1 := .int .i64 7) (v2 := .int .i64 5) (v3 := .int .i64 12) (ex_store (p := .pointer (some ⟨O55, 0, none⟩)) (v := .agg #[.int .i64 3, .int .i64 7, .int .i64 5, .int .i64 12]) rfl (by kernel_rfl) (by kernel_rfl) (st26 bO55_0.1 bO55_0.2 bO55_1.1 bO55_1.2 bO55_2.1 bO55_2.2 bO55_3.1 bO55_3.2)) bO55_0 bO55_1 bO55_2 bO55_3 ?_)
  intro X59 ho hv0 hv1 hv2 hv3 hk
  replace hE := ho.ext hE (Nat.le_trans (Nat.le_trans hs7 (Nat.le_trans hs11 (Nat.le_trans hs13 (Nat.le_trans hs15 (Nat.le_trans hs17 (Nat.le_trans hs19 (Nat.le_trans hs21 (Nat.le_trans hs23 (Nat.le_trans hs28 (Nat.le_trans hs31 (Nat.le_trans hs33 (Nat.le_trans hs36 (Nat.le_trans hs40 (Nat.le_trans hs43 (Nat.le_trans hs46 (Nat.le_trans hs49 (Nat.le_trans hs52 hs54))))))))))))))))) (Nat.le_of_eq hzO55))
  replace hX9 := ho.ext hX9 (Nat.le_trans (Nat.le_trans hs11 (Nat.le_trans hs13 (Nat.le_trans hs15 (Nat.le_trans hs17 (Nat.le_trans hs19 (Nat.le_trans hs21 (Nat.le_trans hs23 (Nat.le_trans hs28 (Nat.le_trans hs31 (Nat.le_trans hs33 (Nat.le_trans hs36 (Nat.le_trans hs40 (Nat.le_trans hs43 (Nat.le_trans hs46 (Nat.le_trans hs49 (Nat.le_trans hs52 hs54)))))))))))))))) (Nat.le_of_eq hzO55))
  replace hX29 := ho.ext hX29 (Nat.le_trans (Nat.le_trans hs31 (Nat.le_trans hs33 (Nat.le_trans hs36 (Nat.le_trans hs40 (Nat.le_trans hs43 (Nat.le_trans hs46 (Nat.le_trans hs49 (Nat.le_trans hs52 hs54)))))))) (Nat.le_of_eq hzO55))
  replace hX44 := ho.ext hX44 (Nat.le_trans (Nat.le_trans hs46 (Nat.le_trans hs49 (Nat.le_trans hs52 hs54))) (Nat.le_of_eq hzO55))
  replace bO38_0 := ho.box (Nat.ne_of_gt (Nat.lt_of_lt_of_le lt41 (Nat.le_trans (Nat.le_trans hs43 (Nat.le_trans hs46 (Nat.le_trans hs49 (Nat.le_trans hs52 hs54)))) (Nat.le_of_eq hzO55)))) bO38_0
  replace bO38_1 := ho.box (Nat.ne_of_gt (Nat.lt_of_lt_of_le lt41 (Nat.le_trans (Nat.le_trans hs43 (Nat.le_trans hs46 (Nat.le_trans hs49 (Nat.le_trans hs52 hs54)))) (Nat.le_of_eq hzO55)))) bO38_1
  replace bO38_2 := ho.box (Nat.ne_of_gt (Nat.lt_of_lt_of_le lt41 (Nat.le_trans (Nat.le_trans hs43 (Nat.le_trans hs46 (Nat.le_trans hs49 (Nat.le_trans hs52 hs54)))) (Nat.le_of_eq hzO55)))) bO38_2
  replace bO38_3 := ho.box (Nat.ne_of_gt (Nat.lt_of_lt_of_le lt41 (Nat.le_trans (Nat.le_trans hs43 (Nat.le_trans hs46 (Nat.le_trans hs49 (Nat.le_trans hs52 hs54)))) (Nat.le_of_eq hzO55)))) bO38_3
  replace bO38_4 := ho.box (Nat.ne_of_gt (Nat.lt_of_lt_of_le lt41 (Nat.le_trans (Nat.le_trans hs43 (Nat.le_trans hs46 (Nat.le_trans hs49 (Nat.le_trans hs52 hs54)))) (Nat.le_of_eq hzO55)))) bO38_4
  replace bO38_5 := ho.box (Nat.ne_of_gt (Nat.lt_of_lt_of_le lt41 (Nat.le_trans (Nat.le_trans hs43 (Nat.le_trans hs46 (Nat.le_trans hs49 (Nat.le_trans hs52 hs54)))) (Nat.le_of_eq hzO55)))) bO38_5
  replace bO38_6 := ho.box (Nat.ne_of_gt (Nat.lt_of_lt_of_le lt41 (Nat.le_trans (Nat.le_trans hs43 (Nat.le_trans hs46 (Nat.le_trans hs49 (Nat.le_trans hs52 hs54)))) (Nat.le_of_eq hzO55)))) bO38_6
  replace bO38_7 := ho.box (Nat.ne_of_gt (Nat.lt_of_lt_of_le lt41 (Nat.le_trans (Nat.le_trans hs43 (Nat.le_trans hs46 (Nat.le_trans hs49 (Nat.le_trans hs52 hs54)))) (Nat.le_of_eq hzO55)))) bO38_7
  replace bO38_8 := ho.box (Nat.ne_of_gt (Nat.lt_of_lt_of_le lt41 (Nat.le_trans (Nat.le_trans hs43 (Nat.le_trans hs46 (Nat.le_trans hs49 (Nat.le_trans hs52 hs54)))) (Nat.le_of_eq hzO55)))) bO38_8
  replace bO47_0 := ho.box (Nat.ne_of_gt (Nat.lt_of_lt_of_le lt50 (Nat.le_trans (Nat.le_trans hs52 hs54) (Nat.le_of_eq hzO55)))) bO47_0
  replace bO47_1 := ho.box (Nat.ne_of_gt (Nat.lt_of_lt_of_le lt50 (Nat.le_trans (Nat.le_trans hs52 hs54) (Nat.le_of_eq hzO55)))) bO47_1
  replace bO47_2 := ho.box (Nat.ne_of_gt (Nat.lt_of_lt_of_le lt50 (Nat.le_trans (Nat.le_trans hs52 hs54) (Nat.le_of_eq hzO55)))) bO47_2
  replace bO47_3 := ho.box (Nat.ne_of_gt (Nat.lt_of_lt_of_le lt50 (Nat.le_trans (Nat.le_trans hs52 hs54) (Nat.le_of_eq hzO55)))) bO47_3
  have hs60 : X56.heap.size ≤ X59.heap.size := Nat.le_of_eq ho.size.symm
  clear ho hk bO55_0 bO55_1 bO55_2 bO55_3
  have bO55_0 := hv0; clear hv0
  have bO55_1 := hv1; clear hv1
  have bO55_2 := hv2; clear hv2
  have bO55_3 := hv3; clear hv3
  refine pT (.int .i64 0) ?_
  refine pl_nil ?_
  refine qw_then ?_
  refine cw_clean [1, 2, 3, 4, 5, 6, 7, 8, 9, 10, 11, 12, 13, 14, 15, 16, 17, 18, 19, 20, 22, 23, 24, 25, 26, 27] (ws' := [(1, .slice (some ⟨O5, 0, none⟩) 3 3), (2, .int .i64 0), (3, .int .i64 0), (4, .int .i64 50), (5, .int .i64 0), (6, .int .i64 70), (7, .int .i64 0), (8, .int .i64 40), (9, .int .i64 0), (10, .int .i64 70), (11, .int .i64 30), (12, .int .i64 0), (13, .int .i64 30), (14, .int .i64 0), (15, .int .i64 (-1 : Int)), (16, .int .i64 0), (17, .slice ra24 rk25 rc26), (18, .int .i64 0), (19, .int .i64 10), (20, .int .i64 0), (22, .int .i64 110), (23, .pointer (some ⟨O38, 0, none⟩)), (24, .pointer (some ⟨O47, 0, none⟩)), (25, .int .i64 0), (26, .pointer (some ⟨O55, 0, none⟩)), (27, .int .i64 0)]) (by kernel_rfl) (fun L => ?_)
  refine cw_seq ?_
  refine cw_plain ?_
  refine pl_take (.agg #[.int .i64 3, .int .i64 0, .int .i64 0, .int .i64 0, .int .i64 5, .int .i64 9, .int .i64 0, .int .i64 7, .slice (some ⟨O34, 0, none⟩) 2 2]) rfl (by kernel_rfl) (by kernel_rfl) (by kernel_rfl) (ex_load rfl (by kernel_rfl) (ld31 (bO38_0.1) (bO38_1.1) (bO38_2.1) (bO38_3.1) (bO38_4.1) (bO38_5.1) (bO38_6.1) (bO38_7.1) (bO38_8.1))) ?_
  refine pl_step rfl (by kernel_rfl) (by kernel_rfl) (by kernel_rfl) (sn_call (f := 30) (args := #[.agg #[.int .i64 3, .int .i64 0, .int .i64 0, .int .i64 0, .int .i64 5, .int .i64 9, .int .i64 0, .int .i64 7, .slice (some ⟨O34, 0, none⟩) 2 2], .int .i64 2]) (by kernel_rfl) (((cast_ret (v' := .tuple #[.agg #[.int .i64 0, .int .i64 0, .int .i64 0, .int .i64 0], .int .i64 110]) (Freed_c (o := Mem.exO) 2 _ _ hO hX44) (by kernel_rfl))).mono ?_))
  rintro e w61 ⟨rfl, hb⟩
  replace hE := hE.trans hb
  replace hX9 := hX9.trans hb
  replace hX29 := hX29.trans hb
  replace hX44 := hX44.trans hb
  replace bO38_0 := BoxAt.ext hb bO38_0
  replace bO38_1 := BoxAt.ext hb bO38_1
  replace bO38_2 := BoxAt.ext hb bO38_2
  replace bO38_3 := BoxAt.ext hb bO38_3
  replace bO38_4 := BoxAt.ext hb bO38_4
  replace bO38_5 := BoxAt.ext hb bO38_5
  replace bO38_6 := BoxAt.ext hb bO38_6
  replace bO38_7 := BoxAt.ext hb bO38_7
  replace bO38_8 := BoxAt.ext hb bO38_8
  replace bO47_0 := BoxAt.ext hb bO47_0
  replace bO47_1 := BoxAt.ext hb bO47_1
  replace bO47_2 := BoxAt.ext hb bO47_2
  replace bO47_3 := BoxAt.ext hb bO47_3
  replace bO55_0 := BoxAt.ext hb bO55_0
  replace bO55_1 := BoxAt.ext hb bO55_1
  replace bO55_2 := BoxAt.ext hb bO55_2
  replace bO55_3 := BoxAt.ext hb bO55_3
  have hs62 := hb.size
  clear hb
  refine ⟨_, rfl, ?_⟩
  refine pT (.tuple #[.agg #[.int .i64 0, .int .i64 0, .int .i64 0, .int .i64 0], .int .i64 110]) ?_
  refine pT (.agg #[.int .i64 0, .int .i64 0, .int .i64 0, .int .i64 0]) ?_
  refine pT (.int .i64 110) ?_
  refine pl_step rfl (by kernel_rfl) (by kernel_rfl) (by kernel_rfl) (sn_new (us := #[.int .i64 0, .int .i64 0, .int .i64 0, .int .i64 0]) (t := 26) (by kernel_rfl) ?_)
  intro O63 X64 hO hOs hb hbx
  have hzO63 := hO; have hyO63 := hOs; clear hO hOs
  have bO63_0 : BoxAt X64 O63 0 (.int .i64 0) := hbx 0 _ rfl
  have bO63_1 : BoxAt X64 O63 1 (.int .i64 0) := hbx 1 _ rfl
  have bO63_2 : BoxAt X64 O63 2 (.int .i64 0) := hbx 2 _ rfl
  have bO63_3 : BoxAt X64 O63 3 (.int .i64 0) := hbx 3 _ rfl
  clear hbx
  replace hE := hE.trans hb
  replace hX9 := hX9.trans hb
  replace hX29 := hX29.trans hb
  replace hX44 := hX44.trans hb
  replace bO38_0 := BoxAt.ext hb bO38_0
  replace bO38_1 := BoxAt.ext hb bO38_1
  replace bO38_2 := BoxAt.ext hb bO38_2
  replace bO38_3 := BoxAt.ext hb bO38_3
  replace bO38_4 := BoxAt.ext hb bO38_4
  replace bO38_5 := BoxAt.ext hb bO38_5
  replace bO38_6 := BoxAt.ext hb bO38_6
  replace bO38_7 := BoxAt.ext hb bO38_7
  replace bO38_8 := BoxAt.ext hb bO38_8
  replace bO47_0 := BoxAt.ext hb bO47_0
  replace bO47_1 := BoxAt.ext hb bO47_1
  replace bO47_2 := BoxAt.ext hb bO47_2
  replace bO47_3 := BoxAt.ext hb bO47_3
  replace bO55_0 := BoxAt.ext hb bO55_0
  replace bO55_1 := BoxAt.ext hb bO55_1
  replace bO55_2 := BoxAt.ext hb bO55_2
  replace bO55_3 := BoxAt.ext hb bO55_3
  have hs65 := hb.size
  clear hb
  have lt66 := bO63_0.lt
  refine pl_put rfl (by kernel_rfl) (by kernel_rfl) (sn_setK4 (O := O63) (j := 0) (v0 := .int .i64 0) (v1 := .int .i64 0) (v2 := .int .i64 0) (v3 := .int .i64 0) (ex_store (p := .pointer (some ⟨O63, 0, none⟩)) (v := .agg #[.int .i64 0, .int .i64 0, .int .i64 0, .int .i64 0]) rfl (by kernel_rfl) (by kernel_rfl) (st26 bO63_0.1 bO63_0.2 bO63_1.1 bO63_1.2 bO63_2.1 bO63_2.2 bO63_3.1 bO63_3.2)) bO63_0 bO63_1 bO63_2 bO63_3 ?_)
  intro X67 ho hv0 hv1 hv2 hv3 hk
  replace hE := ho.ext hE (Nat.le_trans (Nat.le_trans hs7 (Nat.le_trans hs11 (Nat.le_trans hs13 (Nat.le_trans hs15 (Nat.le_trans hs17 (Nat.le_trans hs19 (Nat.le_trans hs21 (Nat.le_trans hs23 (Nat.le_trans hs28 (Nat.le_trans hs31 (Nat.le_trans hs33 (Nat.le_trans hs36 (Nat.le_trans hs40 (Nat.le_trans hs43 (Nat.le_trans hs46 (Nat.le_trans hs49 (Nat.le_trans hs52 (Nat.le_trans hs54 (Nat.le_trans hs57 (Nat.le_trans hs60 hs62)))))))))))))))))))) (Nat.le_of_eq hzO63))
  replace hX9 := ho.ext hX9 (Nat.le_trans (Nat.le_trans hs11 (Nat.le_trans hs13 (Nat.le_trans hs15 (Nat.le_trans hs17 (Nat.le_trans hs19 (Nat.le_trans hs21 (Nat.le_trans hs23 (Nat.le_trans hs28 (Nat.le_trans hs31 (Nat.le_trans hs33 (Nat.le_trans hs36 (Nat.le_trans hs40 (Nat.le_trans hs43 (Nat.le_trans hs46 (Nat.le_trans hs49 (Nat.le_trans hs52 (Nat.le_trans hs54 (Nat.le_trans hs57 (Nat.le_trans hs60 hs62))))))))))))))))))) (Nat.le_of_eq hzO63))
  replace hX29 := ho.ext hX29 (Nat.le_trans (Nat.le_trans hs31 (Nat.le_trans hs33 (Nat.le_trans hs36 (Nat.le_trans hs40 (Nat.le_trans hs43 (Nat.le_trans hs46 (Nat.le_trans hs49 (Nat.le_trans hs52 (Nat.le_trans hs54 (Nat.le_trans hs57 (Nat.le_trans hs60 hs62))))))))))) (Nat.le_of_eq hzO63))
  replace hX44 := ho.ext hX44 (Nat.le_trans (Nat.le_trans hs46 (Nat.le_trans hs49 (Nat.le_trans hs52 (Nat.le_trans hs54 (Nat.le_trans hs57 (Nat.le_trans hs60 hs62)))))) (Nat.le_of_eq hzO63))
  replace bO38_0 := ho.box (Nat.ne_of_gt (Nat.lt_of_lt_of_le lt41 (Nat.le_trans (Nat.le_trans hs43 (Nat.le_trans hs46 (Nat.le_trans hs49 (Nat.le_trans hs52 (Nat.le_trans hs54 (Nat.le_trans hs57 (Nat.le_trans hs60 hs62))))))) (Nat.le_of_eq hzO63)))) bO38_0
  replace bO38_1 := ho.box (Nat.ne_of_gt (Nat.lt_of_lt_of_le lt41 (Nat.le_trans (Nat.le_trans hs43 (Nat.le_trans hs46 (Nat.le_trans hs49 (Nat.le_trans hs52 (Nat.le_trans hs54 (Nat.le_trans hs57 (Nat.le_trans hs60 hs62))))))) (Nat.le_of_eq hzO63)))) bO38_1
  replace bO38_2 := ho.box (Nat.ne_of_gt (Nat.lt_of_lt_of_le lt41 (Nat.le_trans (Nat.le_trans hs43 (Nat.le_trans hs46 (Nat.le_trans hs49 (Nat.le_trans hs52 (Nat.le_trans hs54 (Nat.le_trans hs57 (Nat.le_trans hs60 hs62))))))) (Nat.le_of_eq hzO63)))) bO38_2
  replace bO38_3 := ho.box (Nat.ne_of_gt (Nat.lt_of_lt_of_le lt41 (Nat.le_trans (Nat.le_trans hs43 (Nat.le_trans hs46 (Nat.le_trans hs49 (Nat.le_trans hs52 (Nat.le_trans hs54 (Nat.le_trans hs57 (Nat.le_trans hs60 hs62))))))) (Nat.le_of_eq hzO63)))) bO38_3
  replace bO38_4 := ho.box (Nat.ne_of_gt (Nat.lt_of_lt_of_le lt41 (Nat.le_trans (Nat.le_trans hs43 (Nat.le_trans hs46 (Nat.le_trans hs49 (Nat.le_trans hs52 (Nat.le_trans hs54 (Nat.le_trans hs57 (Nat.le_trans hs60 hs62))))))) (Nat.le_of_eq hzO63)))) bO38_4
  replace bO38_5 := ho.box (Nat.ne_of_gt (Nat.lt_of_lt_of_le lt41 (Nat.le_trans (Nat.le_trans hs43 (Nat.le_trans hs46 (Nat.le_trans hs49 (Nat.le_trans hs52 (Nat.le_trans hs54 (Nat.le_trans hs57 (Nat.le_trans hs60 hs62))))))) (Nat.le_of_eq hzO63)))) bO38_5
  replace bO38_6 := ho.box (Nat.ne_of_gt (Nat.lt_of_lt_of_le lt41 (Nat.le_trans (Nat.le_trans hs43 (Nat.le_trans hs46 (Nat.le_trans hs49 (Nat.le_trans hs52 (Nat.le_trans hs54 (Nat.le_trans hs57 (Nat.le_trans hs60 hs62))))))) (Nat.le_of_eq hzO63)))) bO38_6
  replace bO38_7 := ho.box (Nat.ne_of_gt (Nat.lt_of_lt_of_le lt41 (Nat.le_trans (Nat.le_trans hs43 (Nat.le_trans hs46 (Nat.le_trans hs49 (Nat.le_trans hs52 (Nat.le_trans hs54 (Nat.le_trans hs57 (Nat.le_trans hs60 hs62))))))) (Nat.le_of_eq hzO63)))) bO38_7
  replace bO38_8 := ho.box (Nat.ne_of_gt (Nat.lt_of_lt_of_le lt41 (Nat.le_trans (Nat.le_trans hs43 (Nat.le_trans hs46 (Nat.le_trans hs49 (Nat.le_trans hs52 (Nat.le_trans hs54 (Nat.le_trans hs57 (Nat.le_trans hs60 hs62))))))) (Nat.le_of_eq hzO63)))) bO38_8
  replace bO47_0 := ho.box (Nat.ne_of_gt (Nat.lt_of_lt_of_le lt50 (Nat.le_trans (Nat.le_trans hs52 (Nat.le_trans hs54 (Nat.le_trans hs57 (Nat.le_trans hs60 hs62)))) (Nat.le_of_eq hzO63)))) bO47_0
  replace bO47_1 := ho.box (Nat.ne_of_gt (Nat.lt_of_lt_of_le lt50 (Nat.le_trans (Nat.le_trans hs52 (Nat.le_trans hs54 (Nat.le_trans hs57 (Nat.le_trans hs60 hs62)))) (Nat.le_of_eq hzO63)))) bO47_1
  replace bO47_2 := ho.box (Nat.ne_of_gt (Nat.lt_of_lt_of_le lt50 (Nat.le_trans (Nat.le_trans hs52 (Nat.le_trans hs54 (Nat.le_trans hs57 (Nat.le_trans hs60 hs62)))) (Nat.le_of_eq hzO63)))) bO47_2
  replace bO47_3 := ho.box (Nat.ne_of_gt (Nat.lt_of_lt_of_le lt50 (Nat.le_trans (Nat.le_trans hs52 (Nat.le_trans hs54 (Nat.le_trans hs57 (Nat.le_trans hs60 hs62)))) (Nat.le_of_eq hzO63)))) bO47_3
  replace bO55_0 := ho.box (Nat.ne_of_gt (Nat.lt_of_lt_of_le lt58 (Nat.le_trans (Nat.le_trans hs60 hs62) (Nat.le_of_eq hzO63)))) bO55_0
  replace bO55_1 := ho.box (Nat.ne_of_gt (Nat.lt_of_lt_of_le lt58 (Nat.le_trans (Nat.le_trans hs60 hs62) (Nat.le_of_eq hzO63)))) bO55_1
  replace bO55_2 := ho.box (Nat.ne_of_gt (Nat.lt_of_lt_of_le lt58 (Nat.le_trans (Nat.le_trans hs60 hs62) (Nat.le_of_eq hzO63)))) bO55_2
  replace bO55_3 := ho.box (Nat.ne_of_gt (Nat.lt_of_lt_of_le lt58 (Nat.le_trans (Nat.le_trans hs60 hs62) (Nat.le_of_eq hzO63)))) bO55_3
  have hs68 : X64.heap.size ≤ X67.heap.size := Nat.le_of_eq ho.size.symm
  clear ho hk bO63_0 bO63_1 bO63_2 bO63_3
  have bO63_0 := hv0; clear hv0
  have bO63_1 := hv1; clear hv1
  have bO63_2 := hv2; clear hv2
  have bO63_3 := hv3; clear hv3
  refine pT (.int .i64 110) ?_
  refine pl_nil ?_
  refine qw_then ?_
  refine cw_clean [1, 2, 3, 4, 5, 6, 7, 8, 9, 10, 11, 12, 13, 14, 15, 16, 17, 18, 19, 20, 22, 24, 25, 26, 27, 29] (ws' := [(1, .slice (some ⟨O5, 0, none⟩) 3 3), (2, .int .i64 0), (3, .int .i64 0), (4, .int .i64 50), (5, .int .i64 0), (6, .int .i64 70), (7, .int .i64 0), (8, .int .i64 40), (9, .int .i64 0), (10, .int .i64 70), (11, .int .i64 30), (12, .int .i64 0), (13, .int .i64 30), (14, .int .i64 0), (15, .int .i64 (-1 : Int)), (16, .int .i64 0), (17, .slice ra24 rk25 rc26), (18, .int .i64 0), (19, .int .i64 10), (20, .int .i64 0), (22, .int .i64 110), (24, .pointer (some ⟨O47, 0, none⟩)), (25, .int .i64 0), (26, .pointer (some ⟨O55, 0, none⟩)), (27, .int .i64 0), (29, .int .i64 110)]) (by kernel_rfl) (fun L => ?_)
  refine cw_seq ?_
  refine cw_seq ?_
  refine cw_plain ?_
  refine pT (.int .i64 0) ?_
  refine pT (.bool false) ?_
  refine pT (.bool false) ?_
  refine pT (.int .i64 0) ?_
  refine pT (.bool false) ?_
  refine pT (.bool false) ?_
  refine pT (.bool false) ?_
  refine pT (.int .i64 0) ?_
  refine pT (.bool false) ?_
  refine pT (.bool false) ?_
  refine pT (.bool false) ?_
  refine pT (.int .i64 0) ?_
  refine pT (.bool false) ?_
  refine pT (.bool false) ?_
  refine pT (.bool false) ?_
  refine pT (.int .i64 0) ?_
  refine pT (.bool false) ?_
  refine pT (.bool false) ?_
  refine pT (.bool false) ?_
  refine pT (.int .i64 0) ?_
  refine pT (.bool false) ?_
  refine pT (.bool false) ?_
  refine pT (.bool false) ?_
  refine pT (.int .i64 0) ?_
  refine pT (.bool false) ?_
  refine pT (.bool false) ?_
  refine pT (.bool false) ?_
  refine pT (.int .i64 0) ?_
  refine pT (.bool false) ?_
  refine pT (.bool false) ?_
  refine pT (.bool false) ?_
  refine pT (.int .i64 0) ?_
  refine pT (.bool false) ?_
  refine pT (.bool false) ?_
  refine pT (.bool false) ?_
  refine pT (.int .i64 0) ?_
  refine pT (.bool false) ?_
  refine pT (.bool false) ?_
  refine pT (.bool false) ?_
  refine pT (.int .i64 0) ?_
  refine pT (.bool false) ?_
  refine pT (.bool false) ?_
  refine pT (.bool false) ?_
  refine pT (.int .i64 110) ?_
  refine pT (.bool false) ?_
  refine pT (.bool false) ?_
  refine pT (.bool false) ?_
  refine pT (.int .i64 110) ?_
  refine pT (.bool false) ?_
  refine pT (.bool false) ?_
  refine pl_nil ?_
  refine qw_then ?_
  refine cw_clean [1, 2, 4, 6, 8, 10, 11, 13, 15, 17, 19, 24, 26, 162] (ws' := [(1, .slice (some ⟨O5, 0, none⟩) 3 3), (2, .int .i64 0), (4, .int .i64 50), (6, .int .i64 70), (8, .int .i64 40), (10, .int .i64 70), (11, .int .i64 30), (13, .int .i64 30), (15, .int .i64 (-1 : Int)), (17, .slice ra24 rk25 rc26), (19, .int .i64 10), (24, .pointer (some ⟨O47, 0, none⟩)), (26, .pointer (some ⟨O55, 0, none⟩)), (162, .bool false)]) (by kernel_rfl) (fun L => ?_)
  refine cw_f (by kernel_rfl) ?_
  refine cw_skip ?_
  refine qw_then ?_
  refine cw_seq ?_
  refine cw_plain ?_
  refine pT (.int .i64 0) ?_
  refine pT (.bool true) ?_
  refine pT (.bool true) ?_
  refine pT (.int .i64 50) ?_
  refine pT (.bool true) ?_
  refine pT (.bool true) ?_
  refine pT (.bool true) ?_
  refine pT (.int .i64 70) ?_
  refine pT (.bool true) ?_
  refine pT (.bool true) ?_
  refine pT (.bool true) ?_
  refine pT (.int .i64 40) ?_
  refine pT (.bool true) ?_
  refine pT (.bool true) ?_
  refine pT (.bool true) ?_
  refine pT (.int .i64 70) ?_
  refine pT (.bool true) ?_
  refine pT (.bool true) ?_
  refine pT (.bool true) ?_
  refine pT (.int .i64 30) ?_
  refine pT (.bool true) ?_
  refine pT (.bool true) ?_
  refine pT (.bool true) ?_
  refine pT (.int .i64 30) ?_
  refine pT (.bool true) ?_
  refine pT (.bool true) ?_
  refine pT (.bool true) ?_
  refine pT (.int .i64 (-1 : Int)) ?_
  refine pT (.bool true) ?_
  refine pT (.bool true) ?_
  refine pT (.bool true) ?_
  refine pT (.int .i64 10) ?_
  refine pT (.bool true) ?_
  refine pT (.bool true) ?_
  refine pT (.bool true) ?_
  refine pl_nil ?_
  refine qw_then ?_
  refine cw_clean [1, 17, 24, 26, 30] (ws' := [(1, .slice (some ⟨O5, 0, none⟩) 3 3), (17, .slice ra24 rk25 rc26), (24, .pointer (some ⟨O47, 0, none⟩)), (26, .pointer (some ⟨O55, 0, none⟩)), (30, .bool true)]) (by kernel_rfl) (fun L => ?_)
  refine cw_seq ?_
  refine cw_plain ?_
  refine pl_take (.agg #[.int .i64 3, .int .i64 7, .int .i64 5, .int .i64 25]) rfl (by kernel_rfl) (by kernel_rfl) (by kernel_rfl) (ex_load rfl (by kernel_rfl) (ld26 (bO47_0.1) (bO47_1.1) (bO47_2.1) (bO47_3.1))) ?_
  refine pT (.agg #[.int .i64 5, .int .i64 25]) ?_
  refine pT (.agg #[.int .i64 3, .int .i64 7, .int .i64 5, .int .i64 25]) ?_
  refine pl_take (.bool true) rfl (by kernel_rfl) (by kernel_rfl) (by kernel_rfl) (ex_s26 (xs := #[.int .i64 3, .int .i64 7, .int .i64 5, .int .i64 25]) (ys := #[.int .i64 3, .int .i64 7, .int .i64 5, .int .i64 25]) (v := .bool true) rfl (by kernel_rfl) (by kernel_rfl) (eql26.trans (congrArg (fun b => Result.ok (Value.bool b) _) (by decide)))) ?_
  refine pT (.bool true) ?_
  refine pl_take (.agg #[.int .i64 3, .int .i64 7, .int .i64 5, .int .i64 12]) rfl (by kernel_rfl) (by kernel_rfl) (by kernel_rfl) (ex_load rfl (by kernel_rfl) (ld26 (bO55_0.1) (bO55_1.1) (bO55_2.1) (bO55_3.1))) ?_
  refine pT (.agg #[.int .i64 5, .int .i64 12]) ?_
  refine pT (.agg #[.int .i64 3, .int .i64 7, .int .i64 5, .int .i64 12]) ?_
  refine pl_take (.bool true) rfl (by kernel_rfl) (by kernel_rfl) (by kernel_rfl) (ex_s26 (xs := #[.int .i64 3, .int .i64 7, .int .i64 5, .int .i64 12]) (ys := #[.int .i64 3, .int .i64 7, .int .i64 5, .int .i64 12]) (v := .bool true) rfl (by kernel_rfl) (by kernel_rfl) (eql26.trans (congrArg (fun b => Result.ok (Value.bool b) _) (by decide)))) ?_
  refine pT (.bool true) ?_
  refine pT (.bool true) ?_
  refine pl_nil ?_
  refine qw_then ?_
  refine cw_clean [1, 17, 30, 31] (ws' := [(1, .slice (some ⟨O5, 0, none⟩) 3 3), (17, .slice ra24 rk25 rc26), (30, .bool true), (31, .bool true)]) (by kernel_rfl) (fun L => ?_)
  refine cw_seq ?_
  refine cw_plain ?_
  refine pT (.bool true) ?_
  refine pT (.bool true) ?_
  refine pT (.bool true) ?_
  refine pT (.bool true) ?_
  refine pT (.bool true) ?_
  refine pT (.slice ra24 rk25 rc26) ?_
  refine pl_step rfl (by kernel_rfl) (by kernel_rfl) (by kernel_rfl) (sn_newS (us := #[.int .i64 0, .int .i64 1]) (t := 3) (k := 2) (c := 2) (by kernel_rfl) ?_)
  intro O69 X70 hO hOs hb hbx
  have hzO69 := hO; have hyO69 := hOs; clear hO hOs
  have bO69_0 : BoxAt X70 O69 0 (.int .i64 0) := hbx 0 _ rfl
  have bO69_1 : BoxAt X70 O69 1 (.int .i64 1) := hbx 1 _ rfl
  clear hbx
  replace hE := hE.trans hb
  replace hX9 := hX9.trans hb
  replace hX29 := hX29.trans hb
  replace hX44 := hX44.trans hb
  replace bO38_0 := BoxAt.ext hb bO38_0
  replace bO38_1 := BoxAt.ext hb bO38_1
  replace bO38_2 := BoxAt.ext hb bO38_2
  replace bO38_3 := BoxAt.ext hb bO38_3
  replace bO38_4 := BoxAt.ext hb bO38_4
  replace bO38_5 := BoxAt.ext hb bO38_5
  replace bO38_6 := BoxAt.ext hb bO38_6
  replace bO38_7 := BoxAt.ext hb bO38_7
  replace bO38_8 := BoxAt.ext hb bO38_8
  replace bO47_0 := BoxAt.ext hb bO47_0
  replace bO47_1 := BoxAt.ext hb bO47_1
  replace bO47_2 := BoxAt.ext hb bO47_2
  replace bO47_3 := BoxAt.ext hb bO47_3
  replace bO55_0 := BoxAt.ext hb bO55_0
  replace bO55_1 := BoxAt.ext hb bO55_1
  replace bO55_2 := BoxAt.ext hb bO55_2
  replace bO55_3 := BoxAt.ext hb bO55_3
  replace bO63_0 := BoxAt.ext hb bO63_0
  replace bO63_1 := BoxAt.ext hb bO63_1
  replace bO63_2 := BoxAt.ext hb bO63_2
  replace bO63_3 := BoxAt.ext hb bO63_3
  have hs71 := hb.size
  clear hb
  have lt72 := bO69_0.lt
  refine pl_step rfl (by kernel_rfl) (by kernel_rfl) (by kernel_rfl) (sn_newS (us := #[.int .i64 0, .int .i64 2]) (t := 3) (k := 2) (c := 2) (by kernel_rfl) ?_)
  intro O73 X74 hO hOs hb hbx
  have hzO73 := hO; have hyO73 := hOs; clear hO hOs
  have bO73_0 : BoxAt X74 O73 0 (.int .i64 0) := hbx 0 _ rfl
  have bO73_1 : BoxAt X74 O73 1 (.int .i64 2) := hbx 1 _ rfl
  clear hbx
  replace hE := hE.trans hb
  replace hX9 := hX9.trans hb
  replace hX29 := hX29.trans hb
  replace hX44 := hX44.trans hb
  replace bO38_0 := BoxAt.ext hb bO38_0
  replace bO38_1 := BoxAt.ext hb bO38_1
  replace bO38_2 := BoxAt.ext hb bO38_2
  replace bO38_3 := BoxAt.ext hb bO38_3
  replace bO38_4 := BoxAt.ext hb bO38_4
  replace bO38_5 := BoxAt.ext hb bO38_5
  replace bO38_6 := BoxAt.ext hb bO38_6
  replace bO38_7 := BoxAt.ext hb bO38_7
  replace bO38_8 := BoxAt.ext hb bO38_8
  replace bO47_0 := BoxAt.ext hb bO47_0
  replace bO47_1 := BoxAt.ext hb bO47_1
  replace bO47_2 := BoxAt.ext hb bO47_2
  replace bO47_3 := BoxAt.ext hb bO47_3
  replace bO55_0 := BoxAt.ext hb bO55_0
  replace bO55_1 := BoxAt.ext hb bO55_1
  replace bO55_2 := BoxAt.ext hb bO55_2
  replace bO55_3 := BoxAt.ext hb bO55_3
  replace bO63_0 := BoxAt.ext hb bO63_0
  replace bO63_1 := BoxAt.ext hb bO63_1
  replace bO63_2 := BoxAt.ext hb bO63_2
  replace bO63_3 := BoxAt.ext hb bO63_3
  replace bO69_0 := BoxAt.ext hb bO69_0
  replace bO69_1 := BoxAt.ext hb bO69_1
  have hs75 := hb.size
  clear hb
  have lt76 := bO73_0.lt
  refine pl_step rfl (by kernel_rfl) (by kernel_rfl) (by kernel_rfl) (sn_newS (us := #[.slice (some ⟨O69, 0, none⟩) 2 2, .slice (some ⟨O73, 0, none⟩) 2 2]) (t := 56) (k := 2) (c := 2) (by kernel_rfl) ?_)
  intro O77 X78 hO hOs hb hbx
  have hzO77 := hO; have hyO77 := hOs; clear hO hOs
  have bO77_0 : BoxAt X78 O77 0 (.slice (some ⟨O69, 0, none⟩) 2 2) := hbx 0 _ rfl
  have bO77_1 : BoxAt X78 O77 1 (.slice (some ⟨O73, 0, none⟩) 2 2) := hbx 1 _ rfl
  clear hbx
  replace hE := hE.trans hb
  replace hX9 := hX9.trans hb
  replace hX29 := hX29.trans hb
  replace hX44 := hX44.trans hb
  replace bO38_0 := BoxAt.ext hb bO38_0
  replace bO38_1 := BoxAt.ext hb bO38_1
  replace bO38_2 := BoxAt.ext hb bO38_2
  replace bO38_3 := BoxAt.ext hb bO38_3
  replace bO38_4 := BoxAt.ext hb bO38_4
  replace bO38_5 := BoxAt.ext hb bO38_5
  replace bO38_6 := BoxAt.ext hb bO38_6
  replace bO38_7 := BoxAt.ext hb bO38_7
  replace bO38_8 := BoxAt.ext hb bO38_8
  replace bO47_0 := BoxAt.ext hb bO47_0
  replace bO47_1 := BoxAt.ext hb bO47_1
  replace bO47_2 := BoxAt.ext hb bO47_2
  replace bO47_3 := BoxAt.ext hb bO47_3
  replace bO55_0 := BoxAt.ext hb bO55_0
  replace bO55_1 := BoxAt.ext hb bO55_1
  replace bO55_2 := BoxAt.ext hb bO55_2
  replace bO55_3 := BoxAt.ext hb bO55_3
  replace bO63_0 := BoxAt.ext hb bO63_0
  replace bO63_1 := BoxAt.ext hb bO63_1
  replace bO63_2 := BoxAt.ext hb bO63_2
  replace bO63_3 := BoxAt.ext hb bO63_3
  replace bO69_0 := BoxAt.ext hb bO69_0
  replace bO69_1 := BoxAt.ext hb bO69_1
  replace bO73_0 := BoxAt.ext hb bO73_0
  replace bO73_1 := BoxAt.ext hb bO73_1
  have hs79 := hb.size
  clear hb
  have lt80 := bO77_0.lt
  refine pl_step rfl (by kernel_rfl) (by kernel_rfl) (by kernel_rfl) (sn_call (f := 17) (args := #[.slice ra24 rk25 rc26, .slice (some ⟨O77, 0, none⟩) 2 2]) (by kernel_rfl) ((SameRows_r (r := true) _ _ _ hrw hX29 (sets2 (x := 0) (y := 1) (u := 0) (v := 2) (nats2 (bO69_0.1) (bO69_1.1)) (nats2 (bO73_0.1) (bO73_1.1)) (bO77_0.1) (bO77_1.1)) (Ext.refl _) (fun i _ => snN_le (by decide) i) (fun i _ => snN_le (by decide) i) (decide_eq_true rfl)).mono ?_))
  rintro e w81 ⟨rfl, hb⟩
  replace hE := hE.trans hb
  replace hX9 := hX9.trans hb
  replace hX29 := hX29.trans hb
  replace hX44 := hX44.trans hb
  replace bO38_0 := BoxAt.ext hb bO38_0
  replace bO38_1 := BoxAt.ext hb bO38_1
  replace bO38_2 := BoxAt.ext hb bO38_2
  replace bO38_3 := BoxAt.ext hb bO38_3
  replace bO38_4 := BoxAt.ext hb bO38_4
  replace bO38_5 := BoxAt.ext hb bO38_5
  replace bO38_6 := BoxAt.ext hb bO38_6
  replace bO38_7 := BoxAt.ext hb bO38_7
  replace bO38_8 := BoxAt.ext hb bO38_8
  replace bO47_0 := BoxAt.ext hb bO47_0
  replace bO47_1 := BoxAt.ext hb bO47_1
  replace bO47_2 := BoxAt.ext hb bO47_2
  replace bO47_3 := BoxAt.ext hb bO47_3
  replace bO55_0 := BoxAt.ext hb bO55_0
  replace bO55_1 := BoxAt.ext hb bO55_1
  replace bO55_2 := BoxAt.ext hb bO55_2
  replace bO55_3 := BoxAt.ext hb bO55_3
  replace bO63_0 := BoxAt.ext hb bO63_0
  replace bO63_1 := BoxAt.ext hb bO63_1
  replace bO63_2 := BoxAt.ext hb bO63_2
  replace bO63_3 := BoxAt.ext hb bO63_3
  replace bO69_0 := BoxAt.ext hb bO69_0
  replace bO69_1 := BoxAt.ext hb bO69_1
  replace bO73_0 := BoxAt.ext hb bO73_0
  replace bO73_1 := BoxAt.ext hb bO73_1
  replace bO77_0 := BoxAt.ext hb bO77_0
  replace bO77_1 := BoxAt.ext hb bO77_1
  have hs82 := hb.size
  clear hb
  refine ⟨_, rfl, ?_⟩
  refine pT (.bool true) ?_
  refine pT (.bool true) ?_
  refine pT (.slice (some ⟨O5, 0, none⟩) 3 3) ?_
  refine pl_step rfl (by kernel_rfl) (by kernel_rfl) (by kernel_rfl) (sn_call (f := 18) (args := #[.slice (some ⟨O5, 0, none⟩) 3 3]) (by kernel_rfl) ((Valid_r (r := true) _ _ hL hX9 (by kernel_rfl)).mono ?_))
  rintro e w83 ⟨rfl, hb⟩
  replace hE := hE.trans hb
  replace hX9 := hX9.trans hb
  replace hX29 := hX29.trans hb
  replace hX44 := hX44.trans hb
  replace bO38_0 := BoxAt.ext hb bO38_0
  replace bO38_1 := BoxAt.ext hb bO38_1
  replace bO38_2 := BoxAt.ext hb bO38_2
  replace bO38_3 := BoxAt.ext hb bO38_3
  replace bO38_4 := BoxAt.ext hb bO38_4
  replace bO38_5 := BoxAt.ext hb bO38_5
  replace bO38_6 := BoxAt.ext hb bO38_6
  replace bO38_7 := BoxAt.ext hb bO38_7
  replace bO38_8 := BoxAt.ext hb bO38_8
  replace bO47_0 := BoxAt.ext hb bO47_0
  replace bO47_1 := BoxAt.ext hb bO47_1
  replace bO47_2 := BoxAt.ext hb bO47_2
  replace bO47_3 := BoxAt.ext hb bO47_3
  replace bO55_0 := BoxAt.ext hb bO55_0
  replace bO55_1 := BoxAt.ext hb bO55_1
  replace bO55_2 := BoxAt.ext hb bO55_2
  replace bO55_3 := BoxAt.ext hb bO55_3
  replace bO63_0 := BoxAt.ext hb bO63_0
  replace bO63_1 := BoxAt.ext hb bO63_1
  replace bO63_2 := BoxAt.ext hb bO63_2
  replace bO63_3 := BoxAt.ext hb bO63_3
  replace bO69_0 := BoxAt.ext hb bO69_0
  replace bO69_1 := BoxAt.ext hb bO69_1
  replace bO73_0 := BoxAt.ext hb bO73_0
  replace bO73_1 := BoxAt.ext hb bO73_1
  replace bO77_0 := BoxAt.ext hb bO77_0
  replace bO77_1 := BoxAt.ext hb bO77_1
  have hs84 := hb.size
  clear hb
  refine ⟨_, rfl, ?_⟩
  refine pT (.bool true) ?_
  refine pT (.bool true) ?_
  refine pT (.agg #[.int .i64 0, .int .i64 0, .int .i64 0, .int .i64 0]) ?_
  refine pl_step rfl (by kernel_rfl) (by kernel_rfl) (by kernel_rfl) (sn_newS (us := #[.int .i64 0, .int .i64 0, .int .i64 0, .int .i64 0]) (t := 26) (k := 1) (c := 1) (by kernel_rfl) ?_)
  intro O85 X86 hO hOs hb hbx
  have hzO85 := hO; have hyO85 := hOs; clear hO hOs
  have bO85_0 : BoxAt X86 O85 0 (.int .i64 0) := hbx 0 _ rfl
  have bO85_1 : BoxAt X86 O85 1 (.int .i64 0) := hbx 1 _ rfl
  have bO85_2 : BoxAt X86 O85 2 (.int .i64 0) := hbx 2 _ rfl
  have bO85_3 : BoxAt X86 O85 3 (.int .i64 0) := hbx 3 _ rfl
  clear hbx
  replace hE := hE.trans hb
  replace hX9 := hX9.trans hb
  replace hX29 := hX29.trans hb
  replace hX44 := hX44.trans hb
  replace bO38_0 := BoxAt.ext hb bO38_0
  replace bO38_1 := BoxAt.ext hb bO38_1
  replace bO38_2 := BoxAt.ext hb bO38_2
  replace bO38_3 := BoxAt.ext hb bO38_3
  replace bO38_4 := BoxAt.ext hb bO38_4
  replace bO38_5 := BoxAt.ext hb bO38_5
  replace bO38_6 := BoxAt.ext hb bO38_6
  replace bO38_7 := BoxAt.ext hb bO38_7
  replace bO38_8 := BoxAt.ext hb bO38_8
  replace bO47_0 := BoxAt.ext hb bO47_0
  replace bO47_1 := BoxAt.ext hb bO47_1
  replace bO47_2 := BoxAt.ext hb bO47_2
  replace bO47_3 := BoxAt.ext hb bO47_3
  replace bO55_0 := BoxAt.ext hb bO55_0
  replace bO55_1 := BoxAt.ext hb bO55_1
  replace bO55_2 := BoxAt.ext hb bO55_2
  replace bO55_3 := BoxAt.ext hb bO55_3
  replace bO63_0 := BoxAt.ext hb bO63_0
  replace bO63_1 := BoxAt.ext hb bO63_1
  replace bO63_2 := BoxAt.ext hb bO63_2
  replace bO63_3 := BoxAt.ext hb bO63_3
  replace bO69_0 := BoxAt.ext hb bO69_0
  replace bO69_1 := BoxAt.ext hb bO69_1
  replace bO73_0 := BoxAt.ext hb bO73_0
  replace bO73_1 := BoxAt.ext hb bO73_1
  replace bO77_0 := BoxAt.ext hb bO77_0
  replace bO77_1 := BoxAt.ext hb bO77_1
  have hs87 := hb.size
  clear hb
  have lt88 := bO85_0.lt
  refine pl_step rfl (by kernel_rfl) (by kernel_rfl) (by kernel_rfl) (sn_call (f := 18) (args := #[.slice (some ⟨O85, 0, none⟩) 1 1]) (by kernel_rfl) ((Valid_r (r := false) (l := [⟨0, 0, 0, 0⟩]) _ _ (sts1 ⟨bO85_0.1, bO85_1.1, bO85_2.1, bO85_3.1⟩) (Ext.refl _) (by kernel_rfl)).mono ?_))
  rintro e w89 ⟨rfl, hb⟩
  replace hE := hE.trans hb
  replace hX9 := hX9.trans hb
  replace hX29 := hX29.trans hb
  replace hX44 := hX44.trans hb
  replace bO38_0 := BoxAt.ext hb bO38_0
  replace bO38_1 := BoxAt.ext hb bO38_1
  replace bO38_2 := BoxAt.ext hb bO38_2
  replace bO38_3 := BoxAt.ext hb bO38_3
  replace bO38_4 := BoxAt.ext hb bO38_4
  replace bO38_5 := BoxAt.ext hb bO38_5
  replace bO38_6 := BoxAt.ext hb bO38_6
  replace bO38_7 := BoxAt.ext hb bO38_7
  replace bO38_8 := BoxAt.ext hb bO38_8
  replace bO47_0 := BoxAt.ext hb bO47_0
  replace bO47_1 := BoxAt.ext hb bO47_1
  replace bO47_2 := BoxAt.ext hb bO47_2
  replace bO47_3 := BoxAt.ext hb bO47_3
  replace bO55_0 := BoxAt.ext hb bO55_0
  replace bO55_1 := BoxAt.ext hb bO55_1
  replace bO55_2 := BoxAt.ext hb bO55_2
  replace bO55_3 := BoxAt.ext hb bO55_3
  replace bO63_0 := BoxAt.ext hb bO63_0
  replace bO63_1 := BoxAt.ext hb bO63_1
  replace bO63_2 := BoxAt.ext hb bO63_2
  replace bO63_3 := BoxAt.ext hb bO63_3
  replace bO69_0 := BoxAt.ext hb bO69_0
  replace bO69_1 := BoxAt.ext hb bO69_1
  replace bO73_0 := BoxAt.ext hb bO73_0
  replace bO73_1 := BoxAt.ext hb bO73_1
  replace bO77_0 := BoxAt.ext hb bO77_0
  replace bO77_1 := BoxAt.ext hb bO77_1
  replace bO85_0 := BoxAt.ext hb bO85_0
  replace bO85_1 := BoxAt.ext hb bO85_1
  replace bO85_2 := BoxAt.ext hb bO85_2
  replace bO85_3 := BoxAt.ext hb bO85_3
  have hs90 := hb.size
  clear hb
  refine ⟨_, rfl, ?_⟩
  refine pT (.bool true) ?_
  refine pT (.bool true) ?_
  refine pT (.bool true) ?_
  refine pl_nil ?_
  refine qw_then ?_
  refine cw_clean [0] (ws' := [(0, .bool true)]) (by kernel_rfl) (fun L => ?_)
  refine cw_ret ?_
  refine qw_ret [.bool true] rfl ⟨(by kernel_rfl), trivial⟩ ?_
  exact ⟨rfl, hE⟩
theorem rpick_c (c n : Int) (w : World) (hc : IsI c) (h0 : 0 < n) (h1 : n ≤ 100000000) : Calls Try.prog 32 #[.int .i64 c, .int .i64 n] w fun e w' => e = .returned (.int .i64 (pickF c n)) ∧ w = w' := by
  obtain ⟨h2, h3⟩ := hc
  by_cases h : c < 0
  · go_enter Try.func32, Try.ntmps32
    go_wp2
    go_ret
    exact ⟨ret_int (by rw [pickF_neg h, ← Int.neg_tmod, Int.tmod_eq_emod_of_nonneg (by omega)]), rfl⟩
  · have h' : 0 ≤ c := by omega
    go_enter Try.func32, Try.ntmps32
    go_wp2
    go_ret
    exact ⟨ret_int (by rw [pickF_pos h']), rfl⟩
theorem pick_c (c n : Int) (w : World) (hc : IsI c) (h0 : 0 < n) (h1 : n ≤ 100000000) : Calls Try.prog 12 #[.int .i64 c, .int .i64 n] w fun e w' => e = .returned (.int .i64 (pickF c n)) ∧ w = w' := by
  obtain ⟨h2, h3⟩ := hc
  by_cases h : c < 0
  · go_enter Try.func12, Try.ntmps12
    go_wp2
    go_ret
    exact ⟨ret_int (by rw [pickF_neg h, ← Int.neg_tmod, Int.tmod_eq_emod_of_nonneg (by omega)]), rfl⟩
  · have h' : 0 ≤ c := by omega
    go_enter Try.func12, Try.ntmps12
    go_wp2
    go_ret
    exact ⟨ret_int (by rw [pickF_pos h']), rfl⟩
end Go.Proofs.Ytnbjjddfcondlaa

/- Contract of the reference of chapter 11: Made. -/
namespace Go.Proofs.Ytnbjjddfcondlaa
open Go.RowKit

/-- The slice at a (n elements) reads as rows of three ints. -/
def TriAt (w : World) (a : Option Addr) (n : Nat) (q : Nat → Nat → Int) : Prop :=
  n = 0 ∨ ∃ b off, a = some ⟨b, off, none⟩ ∧ ∀ i, i < n → ∀ j, j < 3 → w.cell? ⟨b, off + i * 3 + j, none⟩ = some (.int .i64 (q i j)) ∧ IsI (q i j)
namespace Mem
def mkSt (q : Nat → Nat → Int) (i : Nat) : St := ⟨((7 * i % 64 : Nat) : Int), 1 + pickF (q i 1) 50, pickF (q i 0) 100, pickF (q i 0) 100 + 1 + pickF (q i 2) 60⟩
def madeL (q : Nat → Nat → Int) (k : Nat) : List St := (List.range k).map (mkSt q)
theorem made_len (q : Nat → Nat → Int) (k : Nat) : (madeL q k).length = k := by unfold madeL; simp
theorem made_next (q : Nat → Nat → Int) (k : Nat) : madeL q (k + 1) = madeL q k ++ [mkSt q k] := by unfold madeL; rw [List.range_succ, List.map_append]; rfl
theorem mk_bd (q : Nat → Nat → Int) (i : Nat) : ((0 ≤ (mkSt q i).im ∧ (mkSt q i).im ≤ 63) ∧ 1 ≤ (mkSt q i).un ∧ (mkSt q i).un ≤ 50) ∧ (0 ≤ (mkSt q i).fr ∧ (mkSt q i).fr ≤ 99) ∧ (mkSt q i).fr < (mkSt q i).to ∧ (mkSt q i).to ≤ 159 := by
  have h1 := pickF_bd (c := q i 1) (n := 50) (by omega)
  have h2 := pickF_bd (c := q i 0) (n := 100) (by omega)
  have h3 := pickF_bd (c := q i 2) (n := 60) (by omega)
  unfold mkSt
  simp only []
  omega
theorem made_dist (q : Nat → Nat → Int) : ∀ k, k ≤ 12 → distB (madeL q k) = true
  | 0, _ => rfl
  | k + 1, h => by
    rw [made_next, distB_snoc, made_dist q k (by omega), Bool.true_and, Bool.not_eq_true', ← Bool.not_eq_true, List.any_eq_true]
    rintro ⟨y, hy, e⟩
    unfold madeL at hy
    obtain ⟨j, hj, rfl⟩ := List.mem_map.1 hy
    have hj' := List.mem_range.1 hj
    have e' := of_decide_eq_true e
    unfold mkSt at e'
    simp only [] at e'
    omega
theorem made_ok {q : Nat → Nat → Int} {k : Nat} (h : k ≤ 12) : okL (madeL q k) = true := by
  unfold okL
  rw [made_dist q k h, decide_eq_true (by rw [made_len]; omega), Bool.and_true, Bool.and_true, List.all_eq_true]
  intro x hx
  unfold madeL at hx
  obtain ⟨i, _, rfl⟩ := List.mem_map.1 hx
  have hb := mk_bd q i
  unfold okSt
  rw [Globe.inB_t.2 hb.1.1, show Globe.inB (mkSt q i).un 1 1000000 = true from Globe.inB_t.2 ⟨by omega, by omega⟩, show spB ((mkSt q i).fr, (mkSt q i).to) = true from spB_t.2 ⟨⟨by simp only []; omega, by simp only []; omega⟩, by simp only []; omega⟩]
  rfl
theorem made_bd {q : Nat → Nat → Int} {k : Nat} {x : St} (hx : x ∈ madeL q k) : ((0 ≤ x.im ∧ x.im ≤ 63) ∧ 1 ≤ x.un ∧ x.un ≤ 50) ∧ (0 ≤ x.fr ∧ x.fr ≤ 99) ∧ x.fr < x.to ∧ x.to ≤ 159 := by
  unfold madeL at hx
  obtain ⟨i, _, rfl⟩ := List.mem_map.1 hx
  exact mk_bd q i
end Mem
set_option maxRecDepth 1000000 in
set_option maxHeartbeats 4000000 in
theorem Made_c {w0 : World} {a : Option Addr} {n : Nat} {q : Nat → Nat → Int} (c : Nat) (w : World) (h : TriAt w0 a n q) (e0 : Ext w0 w) : Calls Try.prog 11 #[.slice a n c] w fun e w' => ∃ (a' : Option Addr) (k c' : Nat), e = .returned (.slice a' k c') ∧ k ≤ 12 ∧ k ≤ n ∧ OwnL stR w.heap.size 26 4 (.slice a' k c') w' (Mem.madeL q k) ∧ Ext w w' := by
  have hs0 := e0.size
  refine calls_cw 48 [(0, .slice a n c)] Try.func11 rfl Try.ntmps11 (by kernel_rfl) (by kernel_rfl) (fun L => ?_)
  have hE : Ext w w := Ext.refl w
  refine cw_seq ?_
  refine cw_plain ?_
  refine pT (.slice none 0 0) ?_
  refine pl_nil ?_
  refine qw_then ?_
  refine cw_seq ?_
  refine cw_plain ?_
  refine pT (.slice none 0 0) ?_
  refine pl_nil ?_
  refine qw_then ?_
  refine cw_seq ?_
  refine cw_seq ?_
  refine cw_plain ?_
  refine pT (.int .i64 0) ?_
  refine pl_nil ?_
  refine qw_then ?_
  refine cw_block ?_
  refine cw_loop [0, 3, 4] (fun ws' wr m => ∃ i : Nat, ∃ a9 : Option Addr, ∃ c9 : Nat, ws' = [(0, .slice a n c), (3, .slice a9 i c9), (4, .int .i64 (((i : Nat) : Int) : Int))] ∧ m = n - i ∧ w.heap.size ≤ wr.heap.size ∧ Ext w0 wr ∧ Ext w wr ∧ OwnL stR w.heap.size 26 4 (.slice a9 i c9) wr (Mem.madeL q i) ∧ i ≤ n ∧ i ≤ 12 ∧ (Mem.madeL q i).length = i) (ws0 := [(0, .slice a n c), (3, .slice none 0 0), (4, .int .i64 0)]) (by kernel_rfl) _ ⟨0, none, 0, rfl, rfl, Nat.le_refl _, e0, hE, OwnL.nil _ _ _ _ _, Nat.zero_le _, Nat.zero_le _, rfl⟩ ?_
  clear e0 hE
  rintro m7 L ws w6 ⟨i, a9, c9, rfl, rfl, hs5, e0, hE, own9, hi, hi2, hml9⟩
  by_cases hlt : i < n
  ·
    by_cases hlt2 : i < 12
    ·
      obtain ⟨b, off, rfl, hc⟩ := h.resolve_left (by omega)
      have q0 := (hc i hlt 0 (by omega)).1; have q1 := (hc i hlt 1 (by omega)).1; have q2 := (hc i hlt 2 (by omega)).1
      have hq := fun j hj => (hc i hlt j hj).2
      have hbk9 := own9.lt
      refine cw_seq ?_
      refine cw_seq ?_
      refine cw_plain ?_
      refine pT (.int .i64 (((i : Nat) : Int) : Int)) ?_
      refine pT (.slice (some ⟨b, off, none⟩) n c) ?_
      refine pT (.int .i64 (((n : Nat) : Int) : Int)) ?_
      refine pl_take (.bool true) rfl (by kernel_rfl) (by kernel_rfl) (by kernel_rfl) (ev_dec (show _ = Result.ok (Next.value (Value.bool (decide ((((i : Nat) : Int) : Int) < (((n : Nat) : Int) : Int))))) _ from by kernel_rfl) (by omega)) ?_
      refine pT (.bool true) ?_
      refine pT (.int .i64 (((i : Nat) : Int) : Int)) ?_
      refine pl_take (.bool true) rfl (by kernel_rfl) (by kernel_rfl) (by kernel_rfl) (ev_dec (show _ = Result.ok (Next.value (Value.bool (decide ((((i : Nat) : Int) : Int) < (12 : Int))))) _ from by kernel_rfl) (by omega)) ?_
      refine pT (.bool true) ?_
      refine pl_nil ?_
      refine qw_then ?_
      refine cw_t (by kernel_rfl) ?_
      refine cw_skip ?_
      refine qw_then ?_
      refine cw_seq ?_
      refine cw_block ?_
      refine cw_seq ?_
      refine cw_plain ?_
      refine pT (.slice (some ⟨b, off, none⟩) n c) ?_
      refine pT (.int .i64 (((i : Nat) : Int) : Int)) ?_
      refine pl_take (.pointer (some ⟨b, off + i * 3, none⟩)) rfl (by kernel_rfl) (by kernel_rfl) (by kernel_rfl) (ex_index (p := .slice (some ⟨b, off, none⟩) n c) (i := .int .i64 ((i : Nat) : Int)) rfl (by kernel_rfl) (by kernel_rfl) (ix22 (k := i) (by omega))) ?_
      refine pT (.pointer (some ⟨b, off + i * 3, none⟩)) ?_
      refine pl_take (.int .i64 (q i 0 : Int)) rfl (by kernel_rfl) (by kernel_rfl) (by kernel_rfl) (ex_load rfl (by kernel_rfl) (ld3 ((e0.cell q0)))) ?_
      refine pl_step rfl (by kernel_rfl) (by kernel_rfl) (by kernel_rfl) (sn_call (f := 32) (args := #[.int .i64 (q i 0 : Int), .int .i64 100]) (by kernel_rfl) ((rpick_c (q i 0) 100 _ (hq 0 (by omega)) (by omega) (by omega)).mono ?_))
      rintro e w' ⟨rfl, rfl⟩
      have hpk8 := pickF_bd (c := q i 0) (n := 100) (by omega)
      refine ⟨_, rfl, ?_⟩
      refine pT (.int .i64 (pickF (q i 0) 100 : Int)) ?_
      refine pl_nil ?_
      refine qw_then ?_
      refine cw_clean [0, 3, 4, 5] (ws' := [(0, .slice (some ⟨b, off, none⟩) n c), (3, .slice a9 i c9), (4, .int .i64 (((i : Nat) : Int) : Int)), (5, .int .i64 (pickF (q i 0) 100 : Int))]) (by kernel_rfl) (fun L => ?_)
      refine cw_draw [(some 22, [3], []), (some 23, [4], []), (some 24, [23], [1]), (some 25, [24], [2]), (some 26, [0], []), (some 27, [4], []), (some 28, [26, 27], [4, 5]), (some 29, [28], [6]), (some 30, [29], [7]), (some 31, [30], [8]), (some 32, [31], [9]), (some 33, [5], []), (some 34, [5], []), (some 35, [34], [12]), (some 36, [0], []), (some 37, [4], []), (some 38, [36, 37], [14, 15]), (some 39, [38], [16]), (some 40, [39], [17]), (some 41, [40], [18, 9]), (some 42, [35, 41], [13, 19]), (some 43, [33, 42], [11, 20]), (some 44, [25, 32, 43], [3, 10, 21]), (some 45, [44], [22]), (some 46, [22, 45], [0, 23, 19]), (some 3, [46], [24, 24, 0, 1, 2, 3, 4, 5, 6, 7, 8, 9, 10, 11, 12, 13, 14, 15, 16, 17, 18, 19, 20, 21, 22, 23, 24])] (fun w' => Ext w0 w') (by kernel_rfl) (by kernel_rfl) (by kernel_rfl) (by kernel_rfl) ((calm_block (calm_then (calm_then (calm_block (calm_then calm_body)))))) (Ext.drew e0) (fun ops Q X9 hb hL hR hK => ?_)
      replace e0 := e0.trans hb
      replace hE := hE.trans hb
      replace own9 := own9.ext hb
      have hs10 := hb.size
      clear hb
      refine wd_take 0 (.slice a9 i c9) hR rfl (by kernel_rfl) rfl (by kernel_rfl) (fun w _ => by kernel_rfl) (e0) ?_
      refine wd_take 1 (.int .i64 (((i : Nat) : Int) : Int)) hR rfl (by kernel_rfl) rfl (by kernel_rfl) (fun w _ => by kernel_rfl) (e0) ?_
      refine wd_take 2 (.int .i64 (((7 * i : Nat) : Int) : Int)) hR rfl (by kernel_rfl) rfl (by kernel_rfl) (fun w _ => ev_wrap (by kernel_rfl) (by omega) (by omega)) (e0) ?_
      refine wd_take 3 (.int .i64 ((((7 * i) % 64 : Nat) : Int) : Int)) hR rfl (by kernel_rfl) rfl (by kernel_rfl) (fun w _ => ex_bin (a := ((7 * i : Nat) : Int)) (b := ((64 : Nat) : Int)) rfl (by kernel_rfl) (by kernel_rfl) (bin_rem (by omega))) (e0) ?_
      refine wd_take 4 (.slice (some ⟨b, off, none⟩) n c) hR rfl (by kernel_rfl) rfl (by kernel_rfl) (fun w _ => by kernel_rfl) (e0) ?_
      refine wd_take 5 (.int .i64 (((i : Nat) : Int) : Int)) hR rfl (by kernel_rfl) rfl (by kernel_rfl) (fun w _ => by kernel_rfl) (e0) ?_
      refine wd_take 6 (.pointer (some ⟨b, off + i * 3, none⟩)) hR rfl (by kernel_rfl) rfl (by kernel_rfl) (fun w _ => ex_index (p := .slice (some ⟨b, off, none⟩) n c) (i := .int .i64 ((i : Nat) : Int)) rfl (by kernel_rfl) (by kernel_rfl) (ix22 (k := i) (by omega))) (e0) ?_
      refine wd_take 7 (.pointer (some ⟨b, off + i * 3 + 1, none⟩)) hR rfl (by kernel_rfl) rfl (by kernel_rfl) (fun w _ => by kernel_rfl) (e0) ?_
      refine wd_take 8 (.int .i64 (q i 1 : Int)) hR rfl (by kernel_rfl) rfl (by kernel_rfl) (fun w hS => ex_load rfl (by kernel_rfl) (ld3 (hS.cell q1))) (e0) ?_
      refine wd_take 11 (.int .i64 (pickF (q i 0) 100 : Int)) hR rfl (by kernel_rfl) rfl (by kernel_rfl) (fun w _ => by kernel_rfl) (e0) ?_
      refine wd_take 12 (.int .i64 (pickF (q i 0) 100 : Int)) hR rfl (by kernel_rfl) rfl (by kernel_rfl) (fun w _ => by kernel_rfl) (e0) ?_
      refine wd_take 13 (.int .i64 ((pickF (q i 0) 100) + 1 : Int)) hR rfl (by kernel_rfl) rfl (by kernel_rfl) (fun w _ => ev_wrap (by kernel_rfl) (by omega) (by omega)) (e0) ?_
      refine wd_take 14 (.slice (some ⟨b, off, none⟩) n c) hR rfl (by kernel_rfl) rfl (by kernel_rfl) (fun w _ => by kernel_rfl) (e0) ?_
      refine wd_take 15 (.int .i64 (((i : Nat) : Int) : Int)) hR rfl (by kernel_rfl) rfl (by kernel_rfl) (fun w _ => by kernel_rfl) (e0) ?_
      refine wd_take 16 (.pointer (some ⟨b, off + i * 3, none⟩)) hR rfl (by kernel_rfl) rfl (by kernel_rfl) (fun w _ => ex_index (p := .slice (some ⟨b, off, none⟩) n c) (i := .int .i64 ((i : Nat) : Int)) rfl (by kernel_rfl) (by kernel_rfl) (ix22 (k := i) (by omega))) (e0) ?_
      refine wd_take 17 (.pointer (some ⟨b, off + i * 3 + 2, none⟩)) hR rfl (by kernel_rfl) rfl (by kernel_rfl) (fun w _ => by kernel_rfl) (e0) ?_
      refine wd_take 18 (.int .i64 (q i 2 : Int)) hR rfl (by kernel_rfl) rfl (by kernel_rfl) (fun w hS => ex_load rfl (by kernel_rfl) (ld3 (hS.cell q2))) (e0) ?_
      refine wd_step 9 hR rfl (by kernel_rfl) (by kernel_rfl) (by kernel_rfl) (sn_call (f := 32) (args := #[.int .i64 (q i 1 : Int), .int .i64 50]) (by kernel_rfl) ((rpick_c (q i 1) 50 _ (hq 1 (by omega)) (by omega) (by omega)).mono ?_))
      rintro e w' ⟨rfl, rfl⟩
      have hpk11 := pickF_bd (c := q i 1) (n := 50) (by omega)
      refine ⟨_, rfl, e0, ?_⟩
      refine wd_take 10 (.int .i64 (1 + (pickF (q i 1) 50) : Int)) hR rfl (by kernel_rfl) rfl (by kernel_rfl) (fun w _ => ev_wrap (by kernel_rfl) (by omega) (by omega)) (e0) ?_
      refine wd_step 19 hR rfl (by kernel_rfl) (by kernel_rfl) (by kernel_rfl) (sn_call (f := 32) (args := #[.int .i64 (q i 2 : Int), .int .i64 60]) (by kernel_rfl) ((rpick_c (q i 2) 60 _ (hq 2 (by omega)) (by omega) (by omega)).mono ?_))
      rintro e w' ⟨rfl, rfl⟩
      have hpk12 := pickF_bd (c := q i 2) (n := 60) (by omega)
      refine ⟨_, rfl, e0, ?_⟩
      refine wd_take 20 (.int .i64 (((pickF (q i 0) 100) + 1) + (pickF (q i 2) 60) : Int)) hR rfl (by kernel_rfl) rfl (by kernel_rfl) (fun w _ => ev_wrap (by kernel_rfl) (by omega) (by omega)) (e0) ?_
      refine wd_take 21 (.agg #[.int .i64 (pickF (q i 0) 100 : Int), .int .i64 (((pickF (q i 0) 100) + 1) + (pickF (q i 2) 60) : Int)]) hR rfl (by kernel_rfl) rfl (by kernel_rfl) (fun w _ => by kernel_rfl) (e0) ?_
      refine wd_take 22 (.agg #[.int .i64 ((((7 * i) % 64 : Nat) : Int) : Int), .int .i64 (1 + (pickF (q i 1) 50) : Int), .int .i64 (pickF (q i 0) 100 : Int), .int .i64 (((pickF (q i 0) 100) + 1) + (pickF (q i 2) 60) : Int)]) hR rfl (by kernel_rfl) rfl (by kernel_rfl) (fun w _ => by kernel_rfl) (e0) ?_
      refine wd_step 23 hR rfl (by kernel_rfl) (by kernel_rfl) (by kernel_rfl) (sn_newS (us := #[.int .i64 ((((7 * i) % 64 : Nat) : Int) : Int), .int .i64 (1 + (pickF (q i 1) 50) : Int), .int .i64 (pickF (q i 0) 100 : Int), .int .i64 (((pickF (q i 0) 100) + 1) + (pickF (q i 2) 60) : Int)]) (t := 26) (k := 1) (c := 1) (by kernel_rfl) ?_)
      intro O13 X14 hO hOs hb hbx
      have hzO13 := hO; have hyO13 := hOs; clear hO hOs
      have bO13_0 : BoxAt X14 O13 0 (.int .i64 ((((7 * i) % 64 : Nat) : Int) : Int)) := hbx 0 _ rfl
      have bO13_1 : BoxAt X14 O13 1 (.int .i64 (1 + (pickF (q i 1) 50) : Int)) := hbx 1 _ rfl
      have bO13_2 : BoxAt X14 O13 2 (.int .i64 (pickF (q i 0) 100 : Int)) := hbx 2 _ rfl
      have bO13_3 : BoxAt X14 O13 3 (.int .i64 (((pickF (q i 0) 100) + 1) + (pickF (q i 2) 60) : Int)) := hbx 3 _ rfl
      clear hbx
      replace e0 := e0.trans hb
      replace hE := hE.trans hb
      replace own9 := own9.ext hb
      have hs15 := hb.size
      clear hb
      have lt16 := bO13_0.lt
      refine ⟨e0, ?_⟩
      have hbs27 := own9.base
      obtain ⟨g17, cap18, w19, hrun20, own21, hgr22, hgb23⟩ := own_app1k (P := Try.prog) (ty := 27) stT (own9) (Nat.le_trans hs5 (Nat.le_trans hs10 hs15)) (k := i) hml9 (O := O13) (c := 1) (x := (Mem.mkSt q i)) (d := [.int .i64 ((((7 * i) % 64 : Nat) : Int) : Int), .int .i64 (1 + (pickF (q i 1) 50) : Int), .int .i64 (pickF (q i 0) 100 : Int), .int .i64 (((pickF (q i 0) 100) + 1) + (pickF (q i 2) 60) : Int)]) (F := []) rfl (cells4 (bO13_0.1) (bO13_1.1) (bO13_2.1) (bO13_3.1)) (by simp [Value.oneCell']) (⟨rfl, rfl⟩) (fun b hb => by cases hb) (by omega) (by omega)
      refine wd_step 24 hR rfl (by kernel_rfl) (by kernel_rfl) (by kernel_rfl) (sn_eff (v := .slice (some ⟨g17, 0, none⟩) (i + 1) cap18) (w' := w19) (ex_append rfl (by kernel_rfl) (by kernel_rfl) hrun20) ?_)
      replace bO13_0 := BoxAt.grownR bO13_0 hgb23 (own_not2 hbk9 (Nat.le_trans hs10 (Nat.le_of_eq hzO13)))
      replace bO13_1 := BoxAt.grownR bO13_1 hgb23 (own_not2 hbk9 (Nat.le_trans hs10 (Nat.le_of_eq hzO13)))
      replace bO13_2 := BoxAt.grownR bO13_2 hgb23 (own_not2 hbk9 (Nat.le_trans hs10 (Nat.le_of_eq hzO13)))
      replace bO13_3 := BoxAt.grownR bO13_3 hgb23 (own_not2 hbk9 (Nat.le_trans hs10 (Nat.le_of_eq hzO13)))
      replace e0 := hgr22.ext _ e0 hs0
      replace hE := hgr22.ext _ hE (Nat.le_refl _)
      have hs24 := hgr22.size
      refine ⟨e0, ?_⟩
      have hl25 := own21.base g17 rfl; have hh26 := own21.lt g17 rfl
      refine wd_take 25 (.slice (some ⟨g17, 0, none⟩) (i + 1) cap18) hR rfl (by kernel_rfl) rfl (by kernel_rfl) (fun w _ => by kernel_rfl) (e0) ?_
      refine wd_end hL hR hK (by kernel_rfl) ?_
      refine qw_block ?_
      refine qw_then ?_
      refine cw_clean [0, 3, 4] (ws' := [(0, .slice (some ⟨b, off, none⟩) n c), (3, .slice (some ⟨g17, 0, none⟩) (i + 1) cap18), (4, .int .i64 (((i : Nat) : Int) : Int))]) (by kernel_rfl) (fun L => ?_)
      refine cw_plain ?_
      refine pT (.int .i64 (((i : Nat) : Int) : Int)) ?_
      refine pl_take (.int .i64 (((i + 1 : Nat) : Int) : Int)) rfl (by kernel_rfl) (by kernel_rfl) (by kernel_rfl) (ev_wrap (by kernel_rfl) (by omega) (by omega)) ?_
      refine pT (.int .i64 (((i + 1 : Nat) : Int) : Int)) ?_
      refine pl_nil ?_
      refine qw_round [0, 3, 4] (ws' := [(0, .slice (some ⟨b, off, none⟩) n c), (3, .slice (some ⟨g17, 0, none⟩) (i + 1) cap18), (4, .int .i64 (((i + 1 : Nat) : Int) : Int))]) (by kernel_rfl) _ ?_ ⟨(i + 1), (some ⟨g17, 0, none⟩), cap18, rfl, rfl, (Nat.le_trans hs5 (Nat.le_trans hs10 (Nat.le_trans hs15 hs24))), e0, hE, (by rw [Mem.made_next]; exact own21), by omega, by omega, (Mem.made_len _ _)⟩
      omega
    ·
      refine cw_seq ?_
      refine cw_seq ?_
      refine cw_plain ?_
      refine pT (.int .i64 (((i : Nat) : Int) : Int)) ?_
      refine pT (.slice a n c) ?_
      refine pT (.int .i64 (((n : Nat) : Int) : Int)) ?_
      refine pl_take (.bool true) rfl (by kernel_rfl) (by kernel_rfl) (by kernel_rfl) (ev_dec (show _ = Result.ok (Next.value (Value.bool (decide ((((i : Nat) : Int) : Int) < (((n : Nat) : Int) : Int))))) _ from by kernel_rfl) (by omega)) ?_
      refine pT (.bool true) ?_
      refine pT (.int .i64 (((i : Nat) : Int) : Int)) ?_
      refine pl_take (.bool false) rfl (by kernel_rfl) (by kernel_rfl) (by kernel_rfl) (ev_ndec (show _ = Result.ok (Next.value (Value.bool (decide ((((i : Nat) : Int) : Int) < (12 : Int))))) _ from by kernel_rfl) (by omega)) ?_
      refine pT (.bool false) ?_
      refine pl_nil ?_
      refine qw_then ?_
      refine cw_f (by kernel_rfl) ?_
      refine cw_exit ?_
      refine qw_then_exit ?_
      refine qw_then_exit ?_
      refine qw_block_out ?_
      refine qw_then ?_
      refine cw_seq ?_
      refine cw_plain ?_
      refine pT (.slice a9 i c9) ?_
      refine pT (.slice a9 i c9) ?_
      refine pl_nil ?_
      refine qw_then ?_
      refine cw_ret ?_
      refine qw_ret [.slice a9 i c9] rfl ⟨(by kernel_rfl), trivial⟩ ?_
      exact ⟨_, _, _, rfl, hi2, hi, own9, hE⟩
  ·
    refine cw_seq ?_
    refine cw_seq ?_
    refine cw_plain ?_
    refine pT (.int .i64 (((i : Nat) : Int) : Int)) ?_
    refine pT (.slice a n c) ?_
    refine pT (.int .i64 (((n : Nat) : Int) : Int)) ?_
    refine pl_take (.bool false) rfl (by kernel_rfl) (by kernel_rfl) (by kernel_rfl) (ev_ndec (show _ = Result.ok (Next.value (Value.bool (decide ((((i : Nat) : Int) : Int) < (((n : Nat) : Int) : Int))))) _ from by kernel_rfl) (by omega)) ?_
    refine pT (.bool false) ?_
    refine pl_skip rfl (by kernel_rfl) (by kernel_rfl) (by kernel_rfl) ?_
    refine pl_skip rfl (by kernel_rfl) (by kernel_rfl) (by kernel_rfl) ?_
    refine pT (.bool false) ?_
    refine pl_nil ?_
    refine qw_then ?_
    refine cw_f (by kernel_rfl) ?_
    refine cw_exit ?_
    refine qw_then_exit ?_
    refine qw_then_exit ?_
    refine qw_block_out ?_
    refine qw_then ?_
    refine cw_seq ?_
    refine cw_plain ?_
    refine pT (.slice a9 i c9) ?_
    refine pT (.slice a9 i c9) ?_
    refine pl_nil ?_
    refine qw_then ?_
    refine cw_ret ?_
    refine qw_ret [.slice a9 i c9] rfl ⟨(by kernel_rfl), trivial⟩ ?_
    exact ⟨_, _, _, rfl, hi2, hi, own9, hE⟩

end Go.Proofs.Ytnbjjddfcondlaa

/- What every law of chapter 11 uses: integers in their bounds; the openers of lists and arrays of ints. -/
namespace Go.Proofs.Ytnbjjddfcondlaa
open Go.ChangeShapes Go.WideShapes Go.ChangeAt Go.RowKit Go.Deep

theorem own : ownKnob Try.prog.godebug = none := by kernel_rfl
theorem laidOut : laidOutB Try.prog = true := by kernel_rfl
theorem isI_of_wf {n : Int} (h : (Lit.int .i64 n).wf = true) : IsI n := by
  simp [Lit.wf, IntKind.min, IntKind.max, IntKind.signed, IntKind.bits] at h
  exact ⟨by omega, by omega⟩
theorem choose_lt11 {α : Type} [Inhabited α] {n : Nat} {p : Nat → α → Prop} (h : ∀ i, i < n → ∃ x, p i x) : ∃ f : Nat → α, ∀ i, i < n → p i (f i) := by
  have h2 : ∀ i, ∃ x, i < n → p i x := fun i => by
    by_cases hi : i < n
    · obtain ⟨x, hx⟩ := h i hi; exact ⟨x, fun _ => hx⟩
    · exact ⟨default, fun h => absurd h hi⟩
  obtain ⟨f, hf⟩ := Classical.axiomOfChoice h2
  exact ⟨f, hf⟩
def Tris (w : World) (v : Value) : Prop := ∃ (a : Option Addr) (n c : Nat) (q : Nat → Nat → Int), v = .slice a n c ∧ n ≤ c ∧ c ≤ 9223372036854775807 ∧ TriAt w a n q

section
variable {H : Type} {enc : TypeId × Value → H} {W : World}
/-- An array of ints (each one cell): what it reads. -/
theorem ints_of_array {spare : Nat → Bool} {held : Bool} {t : TypeId} {k fuel : Nat} {cs : List Value} {x : DataW H × List MemPlace} (ht : Try.prog.underlying t = some (.array k 3)) (h : DataW.trod enc Try.prog W 0 spare held fuel t cs = some x) (hc : cs.length = k) :
    ∃ q : Nat → Int, ∀ j, j < k → cs[j]? = some (.int .i64 (q j)) ∧ IsI (q j) := by
  obtain ⟨xs, m, rfl, hx, hlen, hxl, hg⟩ := DataW.trod_array ht h
  have hone : Try.prog.cellsOf 3 = 1 := by kernel_rfl
  have each : ∀ j, j < k → ∃ n : Int, cs[j]? = some (.int .i64 n) ∧ IsI n := fun j hj => by
    have h1 := hg j hj
    rw [hone, Nat.mul_one] at h1
    have hx : xs[j]? = some (xs[j]'(by omega)) := List.getElem?_eq_getElem (by omega)
    rw [hx] at h1
    obtain ⟨n, hn, _, hw⟩ := DataW.trod_int Try.underlying3 h1
    have hcj : cs[j]? = some (.int .i64 n) := by
      have e : ((cs.drop j).take 1)[0]? = some (.int .i64 n) := by rw [hn]; rfl
      rw [List.getElem?_take_of_lt (by omega), List.getElem?_drop, Nat.add_zero] at e
      exact e
    exact ⟨n, hcj, isI_of_wf hw⟩
  obtain ⟨q, hq⟩ := choose_lt11 each
  exact ⟨q, hq⟩
set_option maxRecDepth 100000 in
theorem open_tris {b0 : Nat} {v : Value} {d : DataW H} {p : List MemPlace} (hval : Value.okWide Try.prog W .any b0 22 v) (h : DataW.Trod enc Try.prog W 0 (fun _ => true) true 22 v d p) : Tris W v := by
  obtain ⟨a, n, c, rfl⟩ := okWide_slice Try.underlying22 hval
  obtain ⟨fuel, hf⟩ := h
  rcases open_slice Try.underlying22 hf with ⟨hcs, _⟩ | ⟨a', len, cap, m, k, D, Pl, hcs, hb, hl, hm, hmm, _, hx⟩
  · simp [Value.cells] at hcs
    obtain ⟨rfl, rfl, rfl⟩ := hcs
    exact ⟨none, 0, 0, fun _ _ => 0, rfl, by omega, by omega, .inl rfl⟩
  · simp [Value.cells] at hcs
    obtain ⟨rfl, rfl, rfl⟩ := hcs
    unfold maxLen at hm
    rcases Nat.eq_zero_or_pos n with h0 | h0
    · exact ⟨_, _, _, fun _ _ => 0, rfl, by omega, by omega, .inl h0⟩
    · have h4 : Try.prog.cellsOf 64 = 3 := by kernel_rfl
      rw [h4] at hx
      simp only [if_true] at hmm
      subst hmm
      have each : ∀ i, i < n → ∃ q : Nat → Int, ∀ j, j < 3 → W.cell? (a'.add (i * 3 + j)) = some (.int .i64 (q j)) ∧ IsI (q j) := fun i hi => by
        obtain ⟨cs', hc1, hc2⟩ := hx i (by omega)
        obtain ⟨_, hcl, hat⟩ := World.cells?_some hc1
        obtain ⟨q, hq⟩ := ints_of_array Try.underlying64 hc2 hcl
        refine ⟨q, fun j hj => ⟨?_, (hq j hj).2⟩⟩
        rw [← Go.Deep.add_add, hat j hj]
        exact (hq j hj).1
      obtain ⟨q, hq⟩ := choose_lt11 each
      obtain ⟨b, off, spot⟩ := a'
      have hspot : spot = none := by have := World.cell?_spot (hq 0 h0 0 (by omega)).1; simpa [Addr.add] using this
      subst hspot
      refine ⟨_, _, _, q, rfl, by omega, by omega, .inr ⟨b, off, rfl, fun i hi j hj => ?_⟩⟩
      have := hq i hi j hj
      rw [add_plain, ← Nat.add_assoc] at this
      exact this
end
end Go.Proofs.Ytnbjjddfcondlaa

/- Contracts as the laws of chapter 11 use them. -/
namespace Go.Proofs.Ytnbjjddfcondlaa
open Go.RowKit

theorem pickv_c (c n : Int) (w : World) (hc : IsI c) (h0 : 0 < n) (h1 : n ≤ 100000000) : Calls Try.prog 12 #[.int .i64 c, .int .i64 n] w fun e w' => ∃ k : Int, e = .returned (.int .i64 k) ∧ (0 ≤ k ∧ k < n) ∧ w = w' :=
  (pick_c c n w hc h0 h1).mono fun _ _ ⟨he, hw⟩ => ⟨_, he, pickF_bd h0, hw⟩
def MadeRet (w : World) (e : Ending) (w' : World) : Prop := ∃ (a : Option Addr) (k c : Nat) (l : List Mem.St), e = .returned (.slice a k c) ∧ k ≤ 12 ∧ k ≤ c ∧ StsAt w' a k l ∧ Mem.okL l = true ∧ (∀ x ∈ l, ((0 ≤ x.im ∧ x.im ≤ 63) ∧ 1 ≤ x.un ∧ x.un ≤ 50) ∧ (0 ≤ x.fr ∧ x.fr ≤ 99) ∧ x.fr < x.to ∧ x.to ≤ 159) ∧ (∀ x ∈ l, x.im ≠ 62) ∧ Ext w w'
theorem Made_y {w0 : World} {a : Option Addr} {n : Nat} {q : Nat → Nat → Int} (c : Nat) (w : World) (h : TriAt w0 a n q) (e0 : Ext w0 w) : Calls Try.prog 11 #[.slice a n c] w (MadeRet w) :=
  (Made_c c w h e0).mono fun e w' ⟨a', k, c', he, hk, _, hown, hb⟩ => ⟨a', k, c', Mem.madeL q k, he, hk, hown.cap (Mem.made_len _ _), own_sts hown (Mem.made_len _ _) (by omega), Mem.made_ok hk, fun x hx => Mem.made_bd hx, fun x hx => by
    unfold Mem.madeL at hx
    obtain ⟨i, hi, rfl⟩ := List.mem_map.1 hx
    have := List.mem_range.1 hi
    unfold Mem.mkSt
    simp only []
    omega, hb⟩
section
variable {w0 : World} {a : Option Addr} {n : Nat} {l : List Mem.St}
end
namespace Mem
theorem fill_take_bd {l : List St} (h : okL l = true) (i : Nat) (t : Int) : 0 ≤ fill (l.take i) t ∧ fill (l.take i) t ≤ fill l t := by
  have h1 := fill_nonneg (l := l.take i) (fun x hx => okL_u h x (List.mem_of_mem_take hx)) t
  have h2 := fill_nonneg (l := l.drop i) (fun x hx => okL_u h x (List.mem_of_mem_drop hx)) t
  have h3 := fill_app (l.take i) (l.drop i) t
  rw [List.take_append_drop] at h3
  omega
/-- What is known of the greatest fill, in plain numbers. -/
theorem IsMost.say {l : List St} {b w : Int} (h : IsMost l b w) (hok : okL l = true) : (l.length = 0 → b = 0 ∧ w = -1) ∧ (0 < l.length → 0 ≤ w ∧ fill l w = b ∧ ∃ x ∈ l, x.fr = w) ∧ 0 ≤ b ∧ -1 ≤ w ∧ (∀ t, fill l t ≤ b) ∧ ∀ t, 0 ≤ t → t < w → fill l t < b := by
  rcases h with ⟨rfl, rfl, rfl⟩ | ⟨h0, h1, ⟨x, hx, e⟩, h3, h4⟩
  · exact ⟨fun _ => ⟨rfl, rfl⟩, fun h => absurd h (by simp), by omega, by omega, fun t => Int.le_refl _, fun t h0 ht => absurd h0 (by omega)⟩
  · have hf := okL_f hok x hx
    have hn := fill_nonneg (okL_u hok) w
    exact ⟨fun h => absurd (List.eq_nil_of_length_eq_zero h) h0, fun _ => ⟨by omega, h1, x, hx, e⟩, by omega, by omega, h3, fun t _ => h4 t⟩
end Mem

end Go.Proofs.Ytnbjjddfcondlaa

/- More that the laws of chapter 11 use: a list of images that is appended; a further image. -/
namespace Go.Proofs.Ytnbjjddfcondlaa
open Go.RowKit

namespace Mem
theorem IsOver.plain {l : List St} {lim t : Int} (h : IsOver l lim t) (hf : ∀ x ∈ l, 0 ≤ x.fr) : -1 ≤ t ∧ (∀ s, lim < fill l s → 0 ≤ t ∧ t ≤ s) ∧ (0 ≤ t → lim < fill l t ∧ ∃ x ∈ l, x.fr = t) := by
  rcases h with ⟨rfl, h⟩ | ⟨⟨x, hx, e⟩, h1, h2⟩
  · exact ⟨by omega, fun s hs => by have := h s; omega, fun h => absurd h (by omega)⟩
  · have hf := hf x hx
    refine ⟨by omega, fun s hs => ⟨by omega, ?_⟩, fun _ => ⟨h1, x, hx, e⟩⟩
    rcases Int.lt_or_le s t with q | q
    · have := h2 s q; omega
    · exact q
theorem okSt_mk {a b c d : Int} (h1 : 0 ≤ a ∧ a ≤ 63) (h2 : 1 ≤ b ∧ b ≤ 1000000) (h3 : (0 ≤ c ∧ c < d) ∧ d ≤ 1000001) : okSt ⟨a, b, c, d⟩ = true := by
  unfold okSt
  rw [show Globe.inB _ 0 63 = true from Globe.inB_t.2 h1, show Globe.inB _ 1 1000000 = true from Globe.inB_t.2 h2, show spB (c, d) = true from spB_t.2 h3]; rfl
end Mem

end Go.Proofs.Ytnbjjddfcondlaa
