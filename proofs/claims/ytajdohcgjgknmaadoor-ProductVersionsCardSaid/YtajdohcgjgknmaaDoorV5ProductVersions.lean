/- Part 5 of what the proof of ProductVersions stands on. -/
import Derived.Test.YtajdohcgjgknmaaDoorV4ProductVersions
/- Contracts of package product: giving, From. -/
namespace Go.Proofs.YtajdohcgjgknmaaDoor
open Go.RowKit

theorem Prod.find_next {l : List Prod.Pc} {i : Nat} {p : Prod.Pc} {q : Prod.Pc → Bool} (h : (l.take i).find? q = none) (hp : l[i]? = some p) (hn : q p = false) : (l.take (i + 1)).find? q = none := by
 rw [List.take_add_one, hp, List.find?_append, h]; simp [hn]
theorem Prod.find_found {l : List Prod.Pc} {i : Nat} {p : Prod.Pc} {q : Prod.Pc → Bool} (h : (l.take i).find? q = none) (hp : l[i]? = some p) (hy : q p = true) : l.find? q = some p := by
 have e : l = l.take i ++ (p :: l.drop (i + 1)) := by
  obtain ⟨hi, rfl⟩ := List.getElem?_eq_some_iff.1 hp
  rw [← List.drop_eq_getElem_cons hi, List.take_append_drop]
 rw [e, List.find?_append, h]; simp [hy]
theorem Has_q {a : Option Addr} {l : List Int} {n : Nat} {b r : Bool} (c : Nat) {x y : Int} {w0 : World} (w : World) (h : AA w0 a l n b) (hE : Ext w0 w) (hr : hasB l x y = r) : Calls Tryd.prog 14 #[.agg #[.slice a n c], .agg #[.int .i64 x, .int .i64 y]] w fun e w' => e = .returned (.bool r) ∧ Ext w w' := hr ▸ Has_c a l n c x y w (h.1.ext hE) h.2.1 h.2.2.1
set_option maxRecDepth 1000000 in
set_option maxHeartbeats 4000000 in
theorem giving1_c {x : Prod.Pc} {a : Option Addr} {k c B : Nat} {u v : Int} {w0 : World} (w : World) (hA : AA w0 a x.rw k (Globe.validL x.rw)) (e0 : Ext w0 w) (cB : w.cell? ⟨B, 0, none⟩ = some (.int .i64 u)) (cB1 : w.cell? ⟨B, 1, none⟩ = some (.int .i64 v)) : Calls Tryd.prog 62 #[.agg #[.int .i64 x.im, .int .i64 x.t, .bool x.cl, .slice a k c], .pointer (some ⟨B, 0, none⟩)] w fun e w' => e = .returned (.bool (hasB x.rw u v)) ∧ Ext w w' := by
 replace hA := hA.ext e0
 refine calls_cw 8 [(1, .pointer (some ⟨B, 0, none⟩)), (0, .agg #[.int .i64 x.im, .int .i64 x.t, .bool x.cl, .slice a k c])] Tryd.func62 rfl Tryd.ntmps62 (by kernel_rfl) (by kernel_rfl) (fun L => ?_)
 have hE : Ext w w := Ext.refl w
 refine cw_seq ?_; refine cw_plain ?_
 refine pS (sn_new (us := #[.int .i64 x.im, .int .i64 x.t, .bool x.cl, .slice a k c]) (t := 41) (by kernel_rfl) ?_)
 intro O1 X2 hzO1 hyO1 hb hbx; have ⟨bO1_0, bO1_1, bO1_2, bO1_3⟩ := bx4 hbx; clear hbx
 replace hE := hE.trans hb; have hs3 := hb.size; clear hb; have lt4 := bO1_0.lt; refine pT (.bool false) ?_; refine pl_nil ?_; refine qw_then ?_; refine cw_seq ?_; have hX5 : Ext X2 X2 := Ext.refl _; refine cw_plain ?_; refine pT (.pointer (some ⟨O1, 3, none⟩)) ?_
 refine pU (.agg #[.slice a k c]) (ex_load rfl (by kernel_rfl) (ld26 (bO1_3.1))) ?_
 refine pU (.agg #[.int .i64 u, .int .i64 v]) (ex_load rfl (by kernel_rfl) (ld43 ((hE.cell cB)) ((hE.cell cB1)))) ?_
 rcases Bool.eq_false_or_eq_true (hasB x.rw u v) with hb6 | hb6
 ·
  refine pS (sn_call (f := 14) (args := #[.agg #[.slice a k c], .agg #[.int .i64 u, .int .i64 v]]) (by kernel_rfl) ((Has_q (r := true) _ _ (hA) hE hb6).mono ?_))
  rintro e w7 ⟨rfl, hb⟩
  replace hE := hE.trans hb; replace hX5 := hX5.trans hb; have hs8 := hb.size; clear hb
  refine ⟨_, rfl, ?_⟩
  refine pT (.bool true) ?_; refine pl_nil ?_; refine qw_then ?_
  refine cw_ret ?_
  refine qw_ret [.bool true] rfl ⟨(by kernel_rfl), trivial⟩ ?_
  exact ⟨congrArg (fun b => Ending.returned (Value.bool b)) (hb6).symm, hE⟩
 ·
  refine pS (sn_call (f := 14) (args := #[.agg #[.slice a k c], .agg #[.int .i64 u, .int .i64 v]]) (by kernel_rfl) ((Has_q (r := false) _ _ (hA) hE hb6).mono ?_))
  rintro e w9 ⟨rfl, hb⟩
  replace hE := hE.trans hb; replace hX5 := hX5.trans hb; have hs10 := hb.size; clear hb
  refine ⟨_, rfl, ?_⟩
  refine pT (.bool false) ?_; refine pl_nil ?_; refine qw_then ?_
  refine cw_ret ?_
  refine qw_ret [.bool false] rfl ⟨(by kernel_rfl), trivial⟩ ?_
  exact ⟨congrArg (fun b => Ending.returned (Value.bool b)) (hb6).symm, hE⟩
theorem giving1_r {x : Prod.Pc} {a : Option Addr} {k c B : Nat} {u v : Int} {w0 : World} {r f : Bool} (w : World) (hA : AA w0 a x.rw k f) (e0 : Ext w0 w) (cB : w.cell? ⟨B, 0, none⟩ = some (.int .i64 u)) (cB1 : w.cell? ⟨B, 1, none⟩ = some (.int .i64 v)) (hr : hasB x.rw u v = r) : Calls Tryd.prog 62 #[.agg #[.int .i64 x.im, .int .i64 x.t, .bool x.cl, .slice a k c], .pointer (some ⟨B, 0, none⟩)] w fun e w' => e = .returned (.bool r) ∧ Ext w w' := hr ▸ giving1_c w (aa_q hA) e0 cB cB1
set_option maxRecDepth 1000000 in
set_option maxHeartbeats 4000000 in
theorem IndexG_c {w0 w1 : World} {a : Option Addr} {n : Nat} {l : List Prod.Pc} {B : Nat} {u v : Int} (c : Nat) (w : World) (h : PcsAt w0 a n l) (e0 : Ext w0 w) (cB : w1.cell? ⟨B, 0, none⟩ = some (.int .i64 u)) (cB1 : w1.cell? ⟨B, 1, none⟩ = some (.int .i64 v)) (e1 : Ext w1 w) : Calls Tryd.prog 57 #[.slice a n c, .func (.func 62) #[] #[.pointer (some ⟨B, 0, none⟩)]] w fun e w' => ∃ z : Int, e = .returned (.int .i64 z) ∧ ((z = -1 ∧ l.find? (fun p => hasB p.rw u v) = none) ∨ ∃ (i : Nat) (p : Prod.Pc), z = (i : Int) ∧ i < n ∧ l[i]? = some p ∧ l.find? (fun p => hasB p.rw u v) = some p) ∧ Ext w w' := by
 replace cB := e1.cell cB; replace cB1 := e1.cell cB1; replace h := h.ext e0; have hnb := h.max; have hln := h.len; clear e0 e1
 refine calls_cw 19 [(1, .func (.func 62) #[] #[.pointer (some ⟨B, 0, none⟩)]), (0, .slice a n c)] Tryd.func57 rfl Tryd.ntmps57 (by kernel_rfl) (by kernel_rfl) (fun L => ?_)
 have hE : Ext w w := Ext.refl w
 refine cw_seq ?_; refine cw_plain ?_; refine pT (.int .i64 0) ?_; refine pl_nil ?_; refine qw_then ?_; refine cw_seq ?_; refine cw_seq ?_; refine cw_plain ?_; refine pT (.slice a n c) ?_; refine pT (.int .i64 (((n : Nat) : Int) : Int)) ?_; refine pT (.int .i64 0) ?_; refine pl_nil ?_; refine qw_then ?_
 refine cw_block ?_
 refine cw_loop [0, 1, 7, 8] (fun ws' wr m => ∃ i : Nat, ws' = [(0, .slice a n c), (1, .func (.func 62) #[] #[.pointer (some ⟨B, 0, none⟩)]), (7, .int .i64 (((n : Nat) : Int) : Int)), (8, .int .i64 (((i : Nat) : Int) : Int))] ∧ m = n - i ∧ w.heap.size ≤ wr.heap.size ∧ Ext w wr ∧ i ≤ n ∧ (l.take i).find? (fun p => hasB p.rw u v) = none) (ws0 := [(0, .slice a n c), (1, .func (.func 62) #[] #[.pointer (some ⟨B, 0, none⟩)]), (7, .int .i64 (((n : Nat) : Int) : Int)), (8, .int .i64 0)]) (by kernel_rfl) _ ⟨0, rfl, rfl, Nat.le_refl _, hE, by omega, rfl⟩ ?_
 clear hE
 rintro m3 L ws w2 ⟨i, rfl, rfl, hs1, hE, hi, hno⟩
 by_cases hlt : i < n
 ·
  obtain ⟨b4, o5, p, ar6, k7, c8, rfl, hx9, hp10, hp11, hp12, hp13, hA14⟩ := h.at hlt
  refine cw_seq ?_; refine cw_plain ?_
  refine pU (.bool true) (ev_dec (show _ = Result.ok (Next.value (Value.bool (decide ((((i : Nat) : Int) : Int) < (((n : Nat) : Int) : Int))))) _ from by kernel_rfl) (by omega)) ?_
  refine pl_nil ?_; refine qw_then ?_; refine cw_seq ?_
  refine cw_t (by kernel_rfl) ?_
  refine cw_skip ?_
  refine qw_then ?_; refine cw_seq ?_
  refine cw_block ?_
  refine cw_seq ?_; refine cw_plain ?_; refine pT (.int .i64 (((i : Nat) : Int) : Int)) ?_; refine pT (.int .i64 (((i : Nat) : Int) : Int)) ?_; refine pl_nil ?_; refine qw_then ?_; refine cw_seq ?_; refine cw_plain ?_; refine pT (.func (.func 62) #[] #[.pointer (some ⟨B, 0, none⟩)]) ?_; refine pT (.slice (some ⟨b4, o5, none⟩) n c) ?_; refine pT (.int .i64 (((i : Nat) : Int) : Int)) ?_
  refine pU (.pointer (some ⟨b4, o5 + i * 4, none⟩)) (ex_index (p := .slice (some ⟨b4, o5, none⟩) n c) (i := .int .i64 ((i : Nat) : Int)) rfl (by kernel_rfl) (by kernel_rfl) (ix28 (k := i) (by omega))) ?_
  refine pU (.agg #[.int .i64 p.im, .int .i64 p.t, .bool p.cl, .slice ar6 k7 c8]) (ex_load rfl (by kernel_rfl) (ld41 ((hE.cell hp10)) ((hE.cell hp11)) ((hE.cell hp12)) ((hE.cell hp13)))) ?_
  rcases Bool.eq_false_or_eq_true (hasB p.rw u v) with hb15 | hb15
  ·
   refine pS (sn_call (f := 62) (args := #[.agg #[.int .i64 p.im, .int .i64 p.t, .bool p.cl, .slice ar6 k7 c8], .pointer (some ⟨B, 0, none⟩)]) (by kernel_rfl) ((giving1_r (x := p) (r := true) _ (hA14) hE ((hE.cell cB)) ((hE.cell cB1)) hb15).mono ?_))
   rintro e w16 ⟨rfl, hb⟩
   replace hE := hE.trans hb; have hs17 := hb.size; clear hb
   refine ⟨_, rfl, ?_⟩
   refine pl_nil ?_; refine qw_then ?_
   refine cw_t (by kernel_rfl) ?_
   refine cw_seq ?_; refine cw_plain ?_; refine pT (.int .i64 (((i : Nat) : Int) : Int)) ?_; refine pT (.int .i64 (((i : Nat) : Int) : Int)) ?_; refine pl_nil ?_; refine qw_then ?_; refine cC1 4 (fun L => ?_)
   refine cw_ret ?_
   refine qw_block_ret ?_
   refine qw_then_ret ?_
   refine qw_then_ret ?_
   refine qw_block_ret ?_
   refine qw_then_ret ?_
   refine qw_ret [.int .i64 (((i : Nat) : Int) : Int)] rfl ⟨(by kernel_rfl), trivial⟩ ?_
   exact ⟨_, rfl, .inr ⟨i, p, rfl, hlt, hx9, Prod.find_found hno hx9 hb15⟩, hE⟩
  ·
   refine pS (sn_call (f := 62) (args := #[.agg #[.int .i64 p.im, .int .i64 p.t, .bool p.cl, .slice ar6 k7 c8], .pointer (some ⟨B, 0, none⟩)]) (by kernel_rfl) ((giving1_r (x := p) (r := false) _ (hA14) hE ((hE.cell cB)) ((hE.cell cB1)) hb15).mono ?_))
   rintro e w18 ⟨rfl, hb⟩
   replace hE := hE.trans hb; have hs19 := hb.size; clear hb
   refine ⟨_, rfl, ?_⟩
   refine pl_nil ?_; refine qw_then ?_
   refine cw_f (by kernel_rfl) ?_
   refine cw_skip ?_
   refine qw_block ?_
   refine qw_then ?_; refine cw_plain ?_
   refine pU (.int .i64 (((i + 1 : Nat) : Int) : Int)) (ev_wrap (by kernel_rfl) (by omega) (by omega)) ?_
   refine pT (.int .i64 (((i + 1 : Nat) : Int) : Int)) ?_; refine pl_nil ?_
   refine qw_round [0, 1, 7, 8] (ws' := [(0, .slice (some ⟨b4, o5, none⟩) n c), (1, .func (.func 62) #[] #[.pointer (some ⟨B, 0, none⟩)]), (7, .int .i64 (((n : Nat) : Int) : Int)), (8, .int .i64 (((i + 1 : Nat) : Int) : Int))]) (by kernel_rfl) _ ?_ ⟨(i + 1), rfl, rfl, (T hs1 hs19), hE, by omega, Prod.find_next hno hx9 hb15⟩
   omega
 ·
  have hin : i = n := by omega
  refine cw_seq ?_; refine cw_plain ?_
  refine pU (.bool false) (ev_ndec (show _ = Result.ok (Next.value (Value.bool (decide ((((i : Nat) : Int) : Int) < (((n : Nat) : Int) : Int))))) _ from by kernel_rfl) (by omega)) ?_
  refine pl_nil ?_; refine qw_then ?_; refine cw_seq ?_
  refine cw_f (by kernel_rfl) ?_
  refine cw_exit ?_
  refine qw_then_exit ?_
  refine qw_then_exit ?_
  refine qw_block_out ?_
  refine qw_then ?_; refine cw_seq ?_; refine cw_plain ?_; refine pT (.int .i64 (-1 : Int)) ?_; refine pl_nil ?_; refine qw_then ?_
  refine cw_ret ?_
  refine qw_ret [.int .i64 (-1 : Int)] rfl ⟨(by kernel_rfl), trivial⟩ ?_
  exact ⟨_, rfl, .inl ⟨rfl, by rw [hin, List.take_of_length_le (Nat.le_of_eq hln)] at hno; exact hno⟩, hE⟩
theorem IndexG_y {w0 w1 : World} {a : Option Addr} {n : Nat} {l : List Prod.Pc} {B : Nat} {u v : Int} {p : Prod.Pc} (c : Nat) (w : World) (h : PcsAt w0 a n l) (e0 : Ext w0 w) (cB : w1.cell? ⟨B, 0, none⟩ = some (.int .i64 u)) (cB1 : w1.cell? ⟨B, 1, none⟩ = some (.int .i64 v)) (e1 : Ext w1 w) (hf : l.find? (fun p => hasB p.rw u v) = some p) : Calls Tryd.prog 57 #[.slice a n c, .func (.func 62) #[] #[.pointer (some ⟨B, 0, none⟩)]] w fun e w' => ∃ i : Nat, e = .returned (.int .i64 i) ∧ i < n ∧ l[i]? = some p ∧ Ext w w' :=
 (IndexG_c c w h e0 cB cB1 e1).mono fun _ _ ⟨z, he, hz, hE⟩ => by
  rcases hz with ⟨_, q⟩ | ⟨i, q, rfl, h1, h2, h3⟩
  · rw [hf] at q; cases q
  · rw [hf] at h3; cases h3; exact ⟨i, he, h1, h2, hE⟩
theorem IndexG_n {w0 w1 : World} {a : Option Addr} {n : Nat} {l : List Prod.Pc} {B : Nat} {u v : Int} (c : Nat) (w : World) (h : PcsAt w0 a n l) (e0 : Ext w0 w) (cB : w1.cell? ⟨B, 0, none⟩ = some (.int .i64 u)) (cB1 : w1.cell? ⟨B, 1, none⟩ = some (.int .i64 v)) (e1 : Ext w1 w) (hf : l.find? (fun p => hasB p.rw u v) = none) : Calls Tryd.prog 57 #[.slice a n c, .func (.func 62) #[] #[.pointer (some ⟨B, 0, none⟩)]] w fun e w' => e = .returned (.int .i64 (-1)) ∧ Ext w w' :=
 (IndexG_c c w h e0 cB cB1 e1).mono fun _ _ ⟨z, he, hz, hE⟩ => by
  rcases hz with ⟨rfl, _⟩ | ⟨i, q, rfl, h1, h2, h3⟩
  · exact ⟨he, hE⟩
  · rw [hf] at h3; cases h3
set_option maxRecDepth 1000000 in
set_option maxHeartbeats 4000000 in
theorem giving_y {w1 w2 : World} {id ver : Int} {ar : List Int} {ps : List Prod.Pc} {a1 a : Option Addr} {n1 n : Nat} (c1 : Nat) {c : Nat} {u v : Int} {p : Prod.Pc} (w : World) (_hnc : n ≤ c) (hA : AA w1 a1 ar n1 (Globe.validL ar)) (e1 : Ext w1 w) (hP : PcsAt w2 a n ps) (e2 : Ext w2 w) (_hT : Tab w) (hf : ps.find? (fun p => hasB p.rw u v) = some p) : Calls Tryd.prog 43 #[.agg #[.int .i64 id, .int .i64 ver, .slice a1 n1 c1, .slice a n c], .agg #[.int .i64 u, .int .i64 v]] w fun e w' => ∃ (ar : Option Addr) (k c : Nat), e = .returned (.tuple #[.agg #[.int .i64 p.im, .int .i64 p.t, .bool p.cl, .slice ar k c], .bool true]) ∧ AA w' ar p.rw k (Globe.validL p.rw) ∧ Ext w w' := by
 replace hA := hA.ext e1; replace hP := hP.ext e2; have hnb := hP.max; have hln := hP.len; clear e1 e2
 refine calls_cw 19 [(1, .agg #[.int .i64 u, .int .i64 v]), (0, .agg #[.int .i64 id, .int .i64 ver, .slice a1 n1 c1, .slice a n c])] Tryd.func43 rfl Tryd.ntmps43 (by kernel_rfl) (by kernel_rfl) (fun L => ?_)
 have hE : Ext w w := Ext.refl w
 refine cw_seq ?_; refine cw_plain ?_
 refine pS (sn_new (us := #[.int .i64 id, .int .i64 ver, .slice a1 n1 c1, .slice a n c]) (t := 31) (by kernel_rfl) ?_)
 intro O1 X2 hzO1 hyO1 hb hbx; have ⟨bO1_0, bO1_1, bO1_2, bO1_3⟩ := bx4 hbx; clear hbx
 replace hE := hE.trans hb; have hs3 := hb.size; clear hb; have lt4 := bO1_0.lt
 refine pS (sn_new (us := #[.int .i64 u, .int .i64 v]) (t := 43) (by kernel_rfl) ?_)
 intro O5 X6 hzO5 hyO5 hb hbx; have ⟨bO5_0, bO5_1⟩ := bx2 hbx; clear hbx
 replace hE := hE.trans hb; replace bO1_0 := BoxAt.ext hb bO1_0; replace bO1_1 := BoxAt.ext hb bO1_1; replace bO1_2 := BoxAt.ext hb bO1_2; replace bO1_3 := BoxAt.ext hb bO1_3; have hs7 := hb.size; clear hb; have lt8 := bO5_0.lt
 refine pS (sn_new (us := #[.int .i64 0, .int .i64 0, .bool false, .slice none 0 0]) (t := 41) (by kernel_rfl) ?_)
 intro O9 X10 hzO9 hyO9 hb hbx; have ⟨bO9_0, bO9_1, bO9_2, bO9_3⟩ := bx4 hbx; clear hbx
 replace hE := hE.trans hb; replace bO1_0 := BoxAt.ext hb bO1_0; replace bO1_1 := BoxAt.ext hb bO1_1; replace bO1_2 := BoxAt.ext hb bO1_2; replace bO1_3 := BoxAt.ext hb bO1_3; replace bO5_0 := BoxAt.ext hb bO5_0; replace bO5_1 := BoxAt.ext hb bO5_1; have hs11 := hb.size; clear hb; have lt12 := bO9_0.lt; refine pT (.bool false) ?_; refine pl_nil ?_; refine qw_then ?_; refine cw_seq ?_; refine cw_plain ?_; refine pT (.pointer (some ⟨O1, 3, none⟩)) ?_
 refine pU (.slice a n c) (ex_load rfl (by kernel_rfl) (ld28 (bO1_3.1))) ?_
 refine pT (.func (.func 62) #[] #[.pointer (some ⟨O5, 0, none⟩)]) ?_
 refine pS (sn_call (f := 57) (args := #[.slice a n c, .func (.func 62) #[] #[.pointer (some ⟨O5, 0, none⟩)]]) (by kernel_rfl) ((IndexG_y _ _ (hP) hE (bO5_0.1) (bO5_1.1) (Ext.refl _) hf).mono ?_))
 rintro e w14 ⟨i, rfl, hin, hix, hb⟩
 replace hE := hE.trans hb; replace bO1_0 := BoxAt.ext hb bO1_0; replace bO1_1 := BoxAt.ext hb bO1_1; replace bO1_2 := BoxAt.ext hb bO1_2; replace bO1_3 := BoxAt.ext hb bO1_3; replace bO5_0 := BoxAt.ext hb bO5_0; replace bO5_1 := BoxAt.ext hb bO5_1; replace bO9_0 := BoxAt.ext hb bO9_0; replace bO9_1 := BoxAt.ext hb bO9_1; replace bO9_2 := BoxAt.ext hb bO9_2; replace bO9_3 := BoxAt.ext hb bO9_3; have hs15 := hb.size; clear hb
 refine ⟨_, rfl, ?_⟩
 refine pT (.int .i64 (((i : Nat) : Int) : Int)) ?_; refine pl_nil ?_; refine qw_then ?_; refine cw_seq ?_; refine cw_seq ?_; refine cw_plain ?_; refine pT (.int .i64 (((i : Nat) : Int) : Int)) ?_
 refine pU (.bool false) (ev_ndec (show _ = Result.ok (Next.value (Value.bool (decide ((((i : Nat) : Int) : Int) < (0 : Int))))) _ from by kernel_rfl) (by omega)) ?_
 refine pl_nil ?_; refine qw_then ?_
 refine cw_f (by kernel_rfl) ?_
 refine cw_skip ?_
 refine qw_then ?_; refine cw_seq ?_
 obtain ⟨b16, o17, p0, ar18, k19, c20, rfl, hx21, hp22, hp23, hp24, hp25, hA26⟩ := hP.at hin
 obtain rfl : p0 = p := Option.some.inj (hx21.symm.trans hix)
 refine cw_plain ?_; refine pT (.pointer (some ⟨O1, 3, none⟩)) ?_
 refine pU (.slice (some ⟨b16, o17, none⟩) n c) (ex_load rfl (by kernel_rfl) (ld28 (bO1_3.1))) ?_
 refine pT (.int .i64 (((i : Nat) : Int) : Int)) ?_
 refine pU (.pointer (some ⟨b16, o17 + i * 4, none⟩)) (ex_index (p := .slice (some ⟨b16, o17, none⟩) n c) (i := .int .i64 ((i : Nat) : Int)) rfl (by kernel_rfl) (by kernel_rfl) (ix28 (k := i) (by omega))) ?_
 refine pU (.agg #[.int .i64 p0.im, .int .i64 p0.t, .bool p0.cl, .slice ar18 k19 c20]) (ex_load rfl (by kernel_rfl) (ld41 ((hE.cell hp22)) ((hE.cell hp23)) ((hE.cell hp24)) ((hE.cell hp25)))) ?_
 refine pP (sn_setK4 (O := O9) (j := 0) (v0 := .int .i64 p0.im) (v1 := .int .i64 p0.t) (v2 := .bool p0.cl) (v3 := .slice ar18 k19 c20) (ex_store (p := .pointer (some ⟨O9, 0, none⟩)) (v := .agg #[.int .i64 p0.im, .int .i64 p0.t, .bool p0.cl, .slice ar18 k19 c20]) rfl (by kernel_rfl) (by kernel_rfl) (st41 bO9_0.1 bO9_0.2 bO9_1.1 bO9_1.2 bO9_2.1 bO9_2.2 bO9_3.1 bO9_3.2)) bO9_0 bO9_1 bO9_2 bO9_3 ?_)
 intro X27 ho hv0 hv1 hv2 hv3 hk; replace hE := ho.ext hE (T (T hs3 hs7) (Nat.le_of_eq hzO9))
 have q9 := fun (j : Nat) (v : Value) (h : BoxAt _ O1 j v) => ho.box (Nat.ne_of_gt (Nat.lt_of_lt_of_le lt4 (T hs7 (Nat.le_of_eq hzO9)))) h
 replace bO1_0 := q9 _ _ bO1_0; replace bO1_1 := q9 _ _ bO1_1; replace bO1_2 := q9 _ _ bO1_2; replace bO1_3 := q9 _ _ bO1_3; clear q9
 have q9 := fun (j : Nat) (v : Value) (h : BoxAt _ O5 j v) => ho.box (Nat.ne_of_gt (Nat.lt_of_lt_of_le lt8 (Nat.le_of_eq hzO9))) h
 replace bO5_0 := q9 _ _ bO5_0; replace bO5_1 := q9 _ _ bO5_1; clear q9; have hs28 : w14.heap.size ≤ X27.heap.size := Nat.le_of_eq ho.size.symm; clear ho hk bO9_0 bO9_1 bO9_2 bO9_3; have bO9_0 := hv0; clear hv0; have bO9_1 := hv1; clear hv1; have bO9_2 := hv2; clear hv2; have bO9_3 := hv3; clear hv3; refine pT (.bool true) ?_; refine pl_nil ?_; refine qw_then ?_; refine cC2 4 5 (fun L => ?_)
 refine cw_ret ?_
 refine qw_ret [.agg #[.int .i64 p0.im, .int .i64 p0.t, .bool p0.cl, .slice ar18 k19 c20], .bool true] rfl ⟨⟨_, by kernel_rfl, res_ld (ld41 (bO9_0.1) (bO9_1.1) (bO9_2.1) (bO9_3.1))⟩, (by kernel_rfl), trivial⟩ ?_
 exact ⟨_, _, _, rfl, (hA26).ext hE, hE⟩
set_option maxRecDepth 1000000 in
set_option maxHeartbeats 4000000 in
theorem giving_n {w1 w2 : World} {id ver : Int} {ar : List Int} {ps : List Prod.Pc} {a1 a : Option Addr} {n1 n : Nat} (c1 : Nat) {c : Nat} {u v : Int} (w : World) (_hnc : n ≤ c) (hA : AA w1 a1 ar n1 (Globe.validL ar)) (e1 : Ext w1 w) (hP : PcsAt w2 a n ps) (e2 : Ext w2 w) (_hT : Tab w) (hf : ps.find? (fun p => hasB p.rw u v) = none) : Calls Tryd.prog 43 #[.agg #[.int .i64 id, .int .i64 ver, .slice a1 n1 c1, .slice a n c], .agg #[.int .i64 u, .int .i64 v]] w fun e w' => e = .returned (.tuple #[.agg #[.int .i64 0, .int .i64 0, .bool false, .slice none 0 0], .bool false]) ∧ Ext w w' := by
 replace hA := hA.ext e1; replace hP := hP.ext e2; have hnb := hP.max; have hln := hP.len; clear e1 e2
 refine calls_cw 19 [(1, .agg #[.int .i64 u, .int .i64 v]), (0, .agg #[.int .i64 id, .int .i64 ver, .slice a1 n1 c1, .slice a n c])] Tryd.func43 rfl Tryd.ntmps43 (by kernel_rfl) (by kernel_rfl) (fun L => ?_)
 have hE : Ext w w := Ext.refl w
 refine cw_seq ?_; refine cw_plain ?_
 refine pS (sn_new (us := #[.int .i64 id, .int .i64 ver, .slice a1 n1 c1, .slice a n c]) (t := 31) (by kernel_rfl) ?_)
 intro O1 X2 hzO1 hyO1 hb hbx; have ⟨bO1_0, bO1_1, bO1_2, bO1_3⟩ := bx4 hbx; clear hbx
 replace hE := hE.trans hb; have hs3 := hb.size; clear hb; have lt4 := bO1_0.lt
 refine pS (sn_new (us := #[.int .i64 u, .int .i64 v]) (t := 43) (by kernel_rfl) ?_)
 intro O5 X6 hzO5 hyO5 hb hbx; have ⟨bO5_0, bO5_1⟩ := bx2 hbx; clear hbx
 replace hE := hE.trans hb; replace bO1_0 := BoxAt.ext hb bO1_0; replace bO1_1 := BoxAt.ext hb bO1_1; replace bO1_2 := BoxAt.ext hb bO1_2; replace bO1_3 := BoxAt.ext hb bO1_3; have hs7 := hb.size; clear hb; have lt8 := bO5_0.lt
 refine pS (sn_new (us := #[.int .i64 0, .int .i64 0, .bool false, .slice none 0 0]) (t := 41) (by kernel_rfl) ?_)
 intro O9 X10 hzO9 hyO9 hb hbx; have ⟨bO9_0, bO9_1, bO9_2, bO9_3⟩ := bx4 hbx; clear hbx
 replace hE := hE.trans hb; replace bO1_0 := BoxAt.ext hb bO1_0; replace bO1_1 := BoxAt.ext hb bO1_1; replace bO1_2 := BoxAt.ext hb bO1_2; replace bO1_3 := BoxAt.ext hb bO1_3; replace bO5_0 := BoxAt.ext hb bO5_0; replace bO5_1 := BoxAt.ext hb bO5_1; have hs11 := hb.size; clear hb; have lt12 := bO9_0.lt; refine pT (.bool false) ?_; refine pl_nil ?_; refine qw_then ?_; refine cw_seq ?_; refine cw_plain ?_; refine pT (.pointer (some ⟨O1, 3, none⟩)) ?_
 refine pU (.slice a n c) (ex_load rfl (by kernel_rfl) (ld28 (bO1_3.1))) ?_
 refine pT (.func (.func 62) #[] #[.pointer (some ⟨O5, 0, none⟩)]) ?_
 refine pS (sn_call (f := 57) (args := #[.slice a n c, .func (.func 62) #[] #[.pointer (some ⟨O5, 0, none⟩)]]) (by kernel_rfl) ((IndexG_n _ _ (hP) hE (bO5_0.1) (bO5_1.1) (Ext.refl _) hf).mono ?_))
 rintro e w14 ⟨rfl, hb⟩
 replace hE := hE.trans hb; replace bO1_0 := BoxAt.ext hb bO1_0; replace bO1_1 := BoxAt.ext hb bO1_1; replace bO1_2 := BoxAt.ext hb bO1_2; replace bO1_3 := BoxAt.ext hb bO1_3; replace bO5_0 := BoxAt.ext hb bO5_0; replace bO5_1 := BoxAt.ext hb bO5_1; replace bO9_0 := BoxAt.ext hb bO9_0; replace bO9_1 := BoxAt.ext hb bO9_1; replace bO9_2 := BoxAt.ext hb bO9_2; replace bO9_3 := BoxAt.ext hb bO9_3; have hs15 := hb.size; clear hb
 refine ⟨_, rfl, ?_⟩
 refine pT (.int .i64 (-1 : Int)) ?_; refine pl_nil ?_; refine qw_then ?_; refine cw_seq ?_; refine cw_seq ?_; refine cw_plain ?_; refine pT (.int .i64 (-1 : Int)) ?_; refine pT (.bool true) ?_; refine pl_nil ?_; refine qw_then ?_
 refine cw_t (by kernel_rfl) ?_
 refine cw_seq ?_; refine cw_plain ?_; refine pT (.agg #[.int .i64 0, .int .i64 0, .bool false, .slice none 0 0]) ?_
 refine pP (sn_setK4 (O := O9) (j := 0) (v0 := .int .i64 0) (v1 := .int .i64 0) (v2 := .bool false) (v3 := .slice none 0 0) (ex_store (p := .pointer (some ⟨O9, 0, none⟩)) (v := .agg #[.int .i64 0, .int .i64 0, .bool false, .slice none 0 0]) rfl (by kernel_rfl) (by kernel_rfl) (st41 bO9_0.1 bO9_0.2 bO9_1.1 bO9_1.2 bO9_2.1 bO9_2.2 bO9_3.1 bO9_3.2)) bO9_0 bO9_1 bO9_2 bO9_3 ?_)
 intro X16 ho hv0 hv1 hv2 hv3 hk; replace hE := ho.ext hE (T (T hs3 hs7) (Nat.le_of_eq hzO9))
 have q9 := fun (j : Nat) (v : Value) (h : BoxAt _ O1 j v) => ho.box (Nat.ne_of_gt (Nat.lt_of_lt_of_le lt4 (T hs7 (Nat.le_of_eq hzO9)))) h
 replace bO1_0 := q9 _ _ bO1_0; replace bO1_1 := q9 _ _ bO1_1; replace bO1_2 := q9 _ _ bO1_2; replace bO1_3 := q9 _ _ bO1_3; clear q9
 have q9 := fun (j : Nat) (v : Value) (h : BoxAt _ O5 j v) => ho.box (Nat.ne_of_gt (Nat.lt_of_lt_of_le lt8 (Nat.le_of_eq hzO9))) h
 replace bO5_0 := q9 _ _ bO5_0; replace bO5_1 := q9 _ _ bO5_1; clear q9; have hs17 : w14.heap.size ≤ X16.heap.size := Nat.le_of_eq ho.size.symm; clear ho hk bO9_0 bO9_1 bO9_2 bO9_3; have bO9_0 := hv0; clear hv0; have bO9_1 := hv1; clear hv1; have bO9_2 := hv2; clear hv2; have bO9_3 := hv3; clear hv3; refine pT (.bool false) ?_; refine pl_nil ?_; refine qw_then ?_
 refine cw_ret ?_
 refine qw_then_ret ?_
 refine qw_ret [.agg #[.int .i64 0, .int .i64 0, .bool false, .slice none 0 0], .bool false] rfl ⟨⟨_, by kernel_rfl, res_ld (ld41 (bO9_0.1) (bO9_1.1) (bO9_2.1) (bO9_3.1))⟩, (by kernel_rfl), trivial⟩ ?_
 exact ⟨rfl, hE⟩
set_option maxRecDepth 1000000 in
set_option maxHeartbeats 4000000 in
theorem From_y {w1 w2 : World} {id ver : Int} {ar : List Int} {ps : List Prod.Pc} {a1 a : Option Addr} {n1 n : Nat} (c1 : Nat) {c : Nat} {u v : Int} {p : Prod.Pc} (w : World) (hnc : n ≤ c) (hA : AA w1 a1 ar n1 (Globe.validL ar)) (e1 : Ext w1 w) (hP : PcsAt w2 a n ps) (e2 : Ext w2 w) (hT : Tab w) (hv : Prod.validP id ver ar ps = true) (hf : ps.find? (fun p => hasB p.rw u v) = some p) : Calls Tryd.prog 16 #[.agg #[.int .i64 id, .int .i64 ver, .slice a1 n1 c1, .slice a n c], .agg #[.int .i64 u, .int .i64 v]] w fun e w' => e = .returned (.tuple #[.int .i64 p.im, .bool true]) ∧ Ext w w' := by
 replace hA := hA.ext e1; replace hP := hP.ext e2; have hnb := hP.max; have hln := hP.len; clear e1 e2
 refine calls_cw 20 [(1, .agg #[.int .i64 u, .int .i64 v]), (0, .agg #[.int .i64 id, .int .i64 ver, .slice a1 n1 c1, .slice a n c])] Tryd.func16 rfl Tryd.ntmps16 (by kernel_rfl) (by kernel_rfl) (fun L => ?_)
 have hE : Ext w w := Ext.refl w
 refine cw_seq ?_; refine cw_plain ?_
 refine pS (sn_new (us := #[.int .i64 id, .int .i64 ver, .slice a1 n1 c1, .slice a n c]) (t := 31) (by kernel_rfl) ?_)
 intro O1 X2 hzO1 hyO1 hb hbx; have ⟨bO1_0, bO1_1, bO1_2, bO1_3⟩ := bx4 hbx; clear hbx
 replace hE := hE.trans hb; have hs3 := hb.size; clear hb; have lt4 := bO1_0.lt
 refine pS (sn_new (us := #[.int .i64 u, .int .i64 v]) (t := 43) (by kernel_rfl) ?_)
 intro O5 X6 hzO5 hyO5 hb hbx; have ⟨bO5_0, bO5_1⟩ := bx2 hbx; clear hbx
 replace hE := hE.trans hb; replace bO1_0 := BoxAt.ext hb bO1_0; replace bO1_1 := BoxAt.ext hb bO1_1; replace bO1_2 := BoxAt.ext hb bO1_2; replace bO1_3 := BoxAt.ext hb bO1_3; have hs7 := hb.size; clear hb; have lt8 := bO5_0.lt; refine pT (.int .i64 0) ?_; refine pT (.bool false) ?_; refine pl_nil ?_; refine qw_then ?_; refine cw_seq ?_; refine cw_seq ?_; refine cw_plain ?_
 refine pU (.agg #[.int .i64 id, .int .i64 ver, .slice a1 n1 c1, .slice a n c]) (ex_load rfl (by kernel_rfl) (ld31 (bO1_0.1) (bO1_1.1) (bO1_2.1) (bO1_3.1))) ?_
 refine pS (sn_call (f := 28) (args := #[.agg #[.int .i64 id, .int .i64 ver, .slice a1 n1 c1, .slice a n c]]) (by kernel_rfl) ((pValid_r (id := id) (ver := ver) (r := true) _ _ (by omega) (aa_q (hA)) hE (hP) hE (hT.ext hE) hv).mono ?_))
 rintro e w9 ⟨rfl, hb⟩
 replace hE := hE.trans hb; replace bO1_0 := BoxAt.ext hb bO1_0; replace bO1_1 := BoxAt.ext hb bO1_1; replace bO1_2 := BoxAt.ext hb bO1_2; replace bO1_3 := BoxAt.ext hb bO1_3; replace bO5_0 := BoxAt.ext hb bO5_0; replace bO5_1 := BoxAt.ext hb bO5_1; have hs10 := hb.size; clear hb
 refine ⟨_, rfl, ?_⟩
 refine pT (.bool false) ?_; refine pl_nil ?_; refine qw_then ?_
 refine cw_f (by kernel_rfl) ?_
 refine cw_skip ?_
 refine qw_then ?_; refine cw_seq ?_; refine cw_plain ?_
 refine pU (.agg #[.int .i64 id, .int .i64 ver, .slice a1 n1 c1, .slice a n c]) (ex_load rfl (by kernel_rfl) (ld31 (bO1_0.1) (bO1_1.1) (bO1_2.1) (bO1_3.1))) ?_
 refine pU (.agg #[.int .i64 u, .int .i64 v]) (ex_load rfl (by kernel_rfl) (ld43 (bO5_0.1) (bO5_1.1))) ?_
 refine pS (sn_call (f := 43) (args := #[.agg #[.int .i64 id, .int .i64 ver, .slice a1 n1 c1, .slice a n c], .agg #[.int .i64 u, .int .i64 v]]) (by kernel_rfl) ((giving_y (id := id) (ver := ver) _ _ (by omega) (aa_q (hA)) hE (hP) hE (hT.ext hE) hf).mono ?_))
 rintro e w15 ⟨ar11, k12, c13, rfl, hA14, hb⟩
 replace hE := hE.trans hb; replace bO1_0 := BoxAt.ext hb bO1_0; replace bO1_1 := BoxAt.ext hb bO1_1; replace bO1_2 := BoxAt.ext hb bO1_2; replace bO1_3 := BoxAt.ext hb bO1_3; replace bO5_0 := BoxAt.ext hb bO5_0; replace bO5_1 := BoxAt.ext hb bO5_1; have hs16 := hb.size; clear hb
 refine ⟨_, rfl, ?_⟩
 refine pT (.tuple #[.agg #[.int .i64 p.im, .int .i64 p.t, .bool p.cl, .slice ar11 k12 c13], .bool true]) ?_; refine pT (.agg #[.int .i64 p.im, .int .i64 p.t, .bool p.cl, .slice ar11 k12 c13]) ?_; refine pT (.bool true) ?_
 refine pS (sn_new (us := #[.int .i64 0, .int .i64 0, .bool false, .slice none 0 0]) (t := 41) (by kernel_rfl) ?_)
 intro O17 X18 hzO17 hyO17 hb hbx; have ⟨bO17_0, bO17_1, bO17_2, bO17_3⟩ := bx4 hbx; clear hbx
 replace hE := hE.trans hb; replace bO1_0 := BoxAt.ext hb bO1_0; replace bO1_1 := BoxAt.ext hb bO1_1; replace bO1_2 := BoxAt.ext hb bO1_2; replace bO1_3 := BoxAt.ext hb bO1_3; replace bO5_0 := BoxAt.ext hb bO5_0; replace bO5_1 := BoxAt.ext hb bO5_1; have hs19 := hb.size; clear hb; have lt20 := bO17_0.lt
 refine pP (sn_setK4 (O := O17) (j := 0) (v0 := .int .i64 p.im) (v1 := .int .i64 p.t) (v2 := .bool p.cl) (v3 := .slice ar11 k12 c13) (ex_store (p := .pointer (some ⟨O17, 0, none⟩)) (v := .agg #[.int .i64 p.im, .int .i64 p.t, .bool p.cl, .slice ar11 k12 c13]) rfl (by kernel_rfl) (by kernel_rfl) (st41 bO17_0.1 bO17_0.2 bO17_1.1 bO17_1.2 bO17_2.1 bO17_2.2 bO17_3.1 bO17_3.2)) bO17_0 bO17_1 bO17_2 bO17_3 ?_)
 intro X21 ho hv0 hv1 hv2 hv3 hk; replace hE := ho.ext hE (T (T hs3 (T hs7 (T hs10 hs16))) (Nat.le_of_eq hzO17))
 have q9 := fun (j : Nat) (v : Value) (h : BoxAt _ O1 j v) => ho.box (Nat.ne_of_gt (Nat.lt_of_lt_of_le lt4 (T (T hs7 (T hs10 hs16)) (Nat.le_of_eq hzO17)))) h
 replace bO1_0 := q9 _ _ bO1_0; replace bO1_1 := q9 _ _ bO1_1; replace bO1_2 := q9 _ _ bO1_2; replace bO1_3 := q9 _ _ bO1_3; clear q9
 have q9 := fun (j : Nat) (v : Value) (h : BoxAt _ O5 j v) => ho.box (Nat.ne_of_gt (Nat.lt_of_lt_of_le lt8 (T (T hs10 hs16) (Nat.le_of_eq hzO17)))) h
 replace bO5_0 := q9 _ _ bO5_0; replace bO5_1 := q9 _ _ bO5_1; clear q9; have hs22 : X18.heap.size ≤ X21.heap.size := Nat.le_of_eq ho.size.symm; clear ho hk bO17_0 bO17_1 bO17_2 bO17_3; have bO17_0 := hv0; clear hv0; have bO17_1 := hv1; clear hv1; have bO17_2 := hv2; clear hv2; have bO17_3 := hv3; clear hv3; refine pT (.bool true) ?_; refine pl_nil ?_; refine qw_then ?_; refine cC2 6 7 (fun L => ?_); refine cw_seq ?_; refine cw_plain ?_; refine pT (.pointer (some ⟨O17, 0, none⟩)) ?_
 refine pU (.int .i64 p.im) (ex_load rfl (by kernel_rfl) (ld3 (bO17_0.1))) ?_
 refine pT (.bool true) ?_; refine pT (.int .i64 p.im) ?_; refine pT (.bool true) ?_; refine pl_nil ?_; refine qw_then ?_
 refine cw_ret ?_
 refine qw_ret [.int .i64 p.im, .bool true] rfl ⟨(by kernel_rfl), (by kernel_rfl), trivial⟩ ?_
 exact ⟨rfl, hE⟩
set_option maxRecDepth 1000000 in
set_option maxHeartbeats 4000000 in
theorem From_n {w1 w2 : World} {id ver : Int} {ar : List Int} {ps : List Prod.Pc} {a1 a : Option Addr} {n1 n : Nat} (c1 : Nat) {c : Nat} {u v : Int} (w : World) (hnc : n ≤ c) (hA : AA w1 a1 ar n1 (Globe.validL ar)) (e1 : Ext w1 w) (hP : PcsAt w2 a n ps) (e2 : Ext w2 w) (hT : Tab w) (hv : Prod.validP id ver ar ps = true) (hf : ps.find? (fun p => hasB p.rw u v) = none) : Calls Tryd.prog 16 #[.agg #[.int .i64 id, .int .i64 ver, .slice a1 n1 c1, .slice a n c], .agg #[.int .i64 u, .int .i64 v]] w fun e w' => e = .returned (.tuple #[.int .i64 0, .bool false]) ∧ Ext w w' := by
 replace hA := hA.ext e1; replace hP := hP.ext e2; have hnb := hP.max; have hln := hP.len; clear e1 e2
 refine calls_cw 20 [(1, .agg #[.int .i64 u, .int .i64 v]), (0, .agg #[.int .i64 id, .int .i64 ver, .slice a1 n1 c1, .slice a n c])] Tryd.func16 rfl Tryd.ntmps16 (by kernel_rfl) (by kernel_rfl) (fun L => ?_)
 have hE : Ext w w := Ext.refl w
 refine cw_seq ?_; refine cw_plain ?_
 refine pS (sn_new (us := #[.int .i64 id, .int .i64 ver, .slice a1 n1 c1, .slice a n c]) (t := 31) (by kernel_rfl) ?_)
 intro O1 X2 hzO1 hyO1 hb hbx; have ⟨bO1_0, bO1_1, bO1_2, bO1_3⟩ := bx4 hbx; clear hbx
 replace hE := hE.trans hb; have hs3 := hb.size; clear hb; have lt4 := bO1_0.lt
 refine pS (sn_new (us := #[.int .i64 u, .int .i64 v]) (t := 43) (by kernel_rfl) ?_)
 intro O5 X6 hzO5 hyO5 hb hbx; have ⟨bO5_0, bO5_1⟩ := bx2 hbx; clear hbx
 replace hE := hE.trans hb; replace bO1_0 := BoxAt.ext hb bO1_0; replace bO1_1 := BoxAt.ext hb bO1_1; replace bO1_2 := BoxAt.ext hb bO1_2; replace bO1_3 := BoxAt.ext hb bO1_3; have hs7 := hb.size; clear hb; have lt8 := bO5_0.lt; refine pT (.int .i64 0) ?_; refine pT (.bool false) ?_; refine pl_nil ?_; refine qw_then ?_; refine cw_seq ?_; refine cw_seq ?_; refine cw_plain ?_
 refine pU (.agg #[.int .i64 id, .int .i64 ver, .slice a1 n1 c1, .slice a n c]) (ex_load rfl (by kernel_rfl) (ld31 (bO1_0.1) (bO1_1.1) (bO1_2.1) (bO1_3.1))) ?_
 refine pS (sn_call (f := 28) (args := #[.agg #[.int .i64 id, .int .i64 ver, .slice a1 n1 c1, .slice a n c]]) (by kernel_rfl) ((pValid_r (id := id) (ver := ver) (r := true) _ _ (by omega) (aa_q (hA)) hE (hP) hE (hT.ext hE) hv).mono ?_))
 rintro e w9 ⟨rfl, hb⟩
 replace hE := hE.trans hb; replace bO1_0 := BoxAt.ext hb bO1_0; replace bO1_1 := BoxAt.ext hb bO1_1; replace bO1_2 := BoxAt.ext hb bO1_2; replace bO1_3 := BoxAt.ext hb bO1_3; replace bO5_0 := BoxAt.ext hb bO5_0; replace bO5_1 := BoxAt.ext hb bO5_1; have hs10 := hb.size; clear hb
 refine ⟨_, rfl, ?_⟩
 refine pT (.bool false) ?_; refine pl_nil ?_; refine qw_then ?_
 refine cw_f (by kernel_rfl) ?_
 refine cw_skip ?_
 refine qw_then ?_; refine cw_seq ?_; refine cw_plain ?_
 refine pU (.agg #[.int .i64 id, .int .i64 ver, .slice a1 n1 c1, .slice a n c]) (ex_load rfl (by kernel_rfl) (ld31 (bO1_0.1) (bO1_1.1) (bO1_2.1) (bO1_3.1))) ?_
 refine pU (.agg #[.int .i64 u, .int .i64 v]) (ex_load rfl (by kernel_rfl) (ld43 (bO5_0.1) (bO5_1.1))) ?_
 refine pS (sn_call (f := 43) (args := #[.agg #[.int .i64 id, .int .i64 ver, .slice a1 n1 c1, .slice a n c], .agg #[.int .i64 u, .int .i64 v]]) (by kernel_rfl) ((giving_n (id := id) (ver := ver) _ _ (by omega) (aa_q (hA)) hE (hP) hE (hT.ext hE) hf).mono ?_))
 rintro e w11 ⟨rfl, hb⟩
 replace hE := hE.trans hb; replace bO1_0 := BoxAt.ext hb bO1_0; replace bO1_1 := BoxAt.ext hb bO1_1; replace bO1_2 := BoxAt.ext hb bO1_2; replace bO1_3 := BoxAt.ext hb bO1_3; replace bO5_0 := BoxAt.ext hb bO5_0; replace bO5_1 := BoxAt.ext hb bO5_1; have hs12 := hb.size; clear hb
 refine ⟨_, rfl, ?_⟩
 refine pT (.tuple #[.agg #[.int .i64 0, .int .i64 0, .bool false, .slice none 0 0], .bool false]) ?_; refine pT (.agg #[.int .i64 0, .int .i64 0, .bool false, .slice none 0 0]) ?_; refine pT (.bool false) ?_
 refine pS (sn_new (us := #[.int .i64 0, .int .i64 0, .bool false, .slice none 0 0]) (t := 41) (by kernel_rfl) ?_)
 intro O13 X14 hzO13 hyO13 hb hbx; have ⟨bO13_0, bO13_1, bO13_2, bO13_3⟩ := bx4 hbx; clear hbx
 replace hE := hE.trans hb; replace bO1_0 := BoxAt.ext hb bO1_0; replace bO1_1 := BoxAt.ext hb bO1_1; replace bO1_2 := BoxAt.ext hb bO1_2; replace bO1_3 := BoxAt.ext hb bO1_3; replace bO5_0 := BoxAt.ext hb bO5_0; replace bO5_1 := BoxAt.ext hb bO5_1; have hs15 := hb.size; clear hb; have lt16 := bO13_0.lt
 refine pP (sn_setK4 (O := O13) (j := 0) (v0 := .int .i64 0) (v1 := .int .i64 0) (v2 := .bool false) (v3 := .slice none 0 0) (ex_store (p := .pointer (some ⟨O13, 0, none⟩)) (v := .agg #[.int .i64 0, .int .i64 0, .bool false, .slice none 0 0]) rfl (by kernel_rfl) (by kernel_rfl) (st41 bO13_0.1 bO13_0.2 bO13_1.1 bO13_1.2 bO13_2.1 bO13_2.2 bO13_3.1 bO13_3.2)) bO13_0 bO13_1 bO13_2 bO13_3 ?_)
 intro X17 ho hv0 hv1 hv2 hv3 hk; replace hE := ho.ext hE (T (T hs3 (T hs7 (T hs10 hs12))) (Nat.le_of_eq hzO13))
 have q9 := fun (j : Nat) (v : Value) (h : BoxAt _ O1 j v) => ho.box (Nat.ne_of_gt (Nat.lt_of_lt_of_le lt4 (T (T hs7 (T hs10 hs12)) (Nat.le_of_eq hzO13)))) h
 replace bO1_0 := q9 _ _ bO1_0; replace bO1_1 := q9 _ _ bO1_1; replace bO1_2 := q9 _ _ bO1_2; replace bO1_3 := q9 _ _ bO1_3; clear q9
 have q9 := fun (j : Nat) (v : Value) (h : BoxAt _ O5 j v) => ho.box (Nat.ne_of_gt (Nat.lt_of_lt_of_le lt8 (T (T hs10 hs12) (Nat.le_of_eq hzO13)))) h
 replace bO5_0 := q9 _ _ bO5_0; replace bO5_1 := q9 _ _ bO5_1; clear q9; have hs18 : X14.heap.size ≤ X17.heap.size := Nat.le_of_eq ho.size.symm; clear ho hk bO13_0 bO13_1 bO13_2 bO13_3; have bO13_0 := hv0; clear hv0; have bO13_1 := hv1; clear hv1; have bO13_2 := hv2; clear hv2; have bO13_3 := hv3; clear hv3; refine pT (.bool false) ?_; refine pl_nil ?_; refine qw_then ?_; refine cC2 6 7 (fun L => ?_); refine cw_seq ?_; refine cw_plain ?_; refine pT (.pointer (some ⟨O13, 0, none⟩)) ?_
 refine pU (.int .i64 0) (ex_load rfl (by kernel_rfl) (ld3 (bO13_0.1))) ?_
 refine pT (.bool false) ?_; refine pT (.int .i64 0) ?_; refine pT (.bool false) ?_; refine pl_nil ?_; refine qw_then ?_
 refine cw_ret ?_
 refine qw_ret [.int .i64 0, .bool false] rfl ⟨(by kernel_rfl), (by kernel_rfl), trivial⟩ ?_
 exact ⟨rfl, hE⟩
end Go.Proofs.YtajdohcgjgknmaaDoor

/- Contracts of package globe: Same. -/
namespace Go.Proofs.YtajdohcgjgknmaaDoor
open Go.RowKit

theorem ne_of_at {l1 l2 : List Int} {k : Nat} (h : Globe.nth l1 k ≠ Globe.nth l2 k) : decide (l1 = l2) = false := by
 rw [decide_eq_false_iff_not]; intro e; exact h (by rw [e])
/-- Two lists of ints in memory, compared. -/
theorem slicesEqual_c (a1 : Option Addr) (l1 : List Int) (n1 c1 : Nat) (a2 : Option Addr) (l2 : List Int) (n2 c2 : Nat) (w : World) (h1 : IntsAt w a1 l1) (hn1 : l1.length = n1) (hl1 : n1 ≤ 140737488355328) (h2 : IntsAt w a2 l2) (hn2 : l2.length = n2) (hl2 : n2 ≤ 140737488355328) :
    Calls Tryd.prog 69 #[.slice a1 n1 c1, .slice a2 n2 c2] w fun e w' => e = .returned (.bool (decide (l1 = l2))) ∧ Ext w w' := by
  by_cases hne : n1 = n2
  · subst hne
    rcases Nat.eq_zero_or_pos n1 with h0 | h0
    · subst h0
      obtain rfl := List.length_eq_zero_iff.1 hn1
      obtain rfl := List.length_eq_zero_iff.1 hn2
      clear h1 h2 hn1 hn2 hl1 hl2
      go_enter Tryd.func69, Tryd.ntmps69
      go_wp2_with fail
      refine wp_loop_rounds 1 ?_
      rw [rounds_succ]
      go_wp2_with fail
      go_ret
      exact ⟨rfl, by (repeat' (first | (with_reducible assumption) | (with_reducible exact Ext.refl _) | (with_reducible refine Ext.alloc ?_ _) | (with_reducible refine Ext.drew ?_) | (with_reducible refine Ext.drewN ?_ _) | (with_reducible refine Ext.setCell ?_ ?_ _) | (with_reducible refine Ext.trans ?_ (by assumption)) | go_size))⟩
    · have e1 : ∃ b off, a1 = some ⟨b, off, none⟩ ∧ ∀ i, i < n1 → w.cell? ⟨b, off + i, none⟩ = some (.int .i64 (Globe.nth l1 i)) := by
        rcases h1 with rfl | ⟨b, off, rfl, h⟩
        · simp at hn1; omega
        · exact ⟨b, off, rfl, fun i hi => h i (by omega)⟩
      have e2 : ∃ b off, a2 = some ⟨b, off, none⟩ ∧ ∀ i, i < n1 → w.cell? ⟨b, off + i, none⟩ = some (.int .i64 (Globe.nth l2 i)) := by
        rcases h2 with rfl | ⟨b, off, rfl, h⟩
        · simp at hn2; omega
        · exact ⟨b, off, rfl, fun i hi => h i (by omega)⟩
      obtain ⟨b1, o1, rfl, r1⟩ := e1
      obtain ⟨b2, o2, rfl, r2⟩ := e2
      have R1 := Lib.hid r1; clear r1
      have R2 := Lib.hid r2; clear r2
      have Hn1 := Lib.hid hn1; clear hn1
      have Hn2 := Lib.hid hn2; clear hn2
      clear h1 h2 hl2
      go_enter Tryd.func69, Tryd.ntmps69
      go_wp2_with fail
      go_loopw [13] (fun p wr => ∃ k : Nat, k ≤ n1 ∧ p = .int .i64 k ∧ Hid (∀ j, j < k → Globe.nth l1 j = Globe.nth l2 j) ∧ Ext w wr) (fun p _ => n1 - (intOf p).toNat)
      case atStart => exact ⟨0, by omega, rfl, fun j hj => by omega, by (repeat' (first | (with_reducible assumption) | (with_reducible exact Ext.refl _) | (with_reducible refine Ext.alloc ?_ _) | (with_reducible refine Ext.drew ?_) | (with_reducible refine Ext.drewN ?_ _) | (with_reducible refine Ext.setCell ?_ ?_ _) | (with_reducible refine Ext.trans ?_ (by assumption)) | go_size))⟩
      case round =>
        obtain ⟨k, hk, rfl, Hp, hE⟩ := hrel
        by_cases hlt : k < n1
        · have d1 : wr.cell? ⟨b1, o1 + k, none⟩ = some (.int .i64 (Globe.nth l1 k)) := hE.cell (R1.out k hlt)
          have d2 : wr.cell? ⟨b2, o2 + k, none⟩ = some (.int .i64 (Globe.nth l2 k)) := hE.cell (R2.out k hlt)
          have k0 : (0 : Int) ≤ (k : Int) := by omega
          have k1 : (k : Int) < (n1 : Int) := by omega
          generalize hx : Globe.nth l1 k = x at *
          generalize hy : Globe.nth l2 k = y at *
          have Hx := Lib.hid hx; clear hx
          have Hy := Lib.hid hy; clear hy
          by_cases hxy : x = y
          · subst hxy
            go_wp2_with fail
            go_quiet (fail)
            go_wp2_with fail
            go_roundw
            case rel => exact ⟨k + 1, by omega, by go_num, fun j hj => by
              rcases Nat.lt_or_ge j k with h | h
              · exact Hp.out j h
              · rw [show j = k by omega, Hx.out, Hy.out], by (repeat' (first | (with_reducible assumption) | (with_reducible exact Ext.refl _) | (with_reducible refine Ext.alloc ?_ _) | (with_reducible refine Ext.drew ?_) | (with_reducible refine Ext.drewN ?_ _) | (with_reducible refine Ext.setCell ?_ ?_ _) | (with_reducible refine Ext.trans ?_ (by assumption)) | go_size))⟩
            case measure => simp [intOf]; omega
          · go_wp2_with fail
            go_quiet (fail)
            go_wp2_with fail
            go_ret
            exact ⟨ret_bool (ne_of_at (k := k) (by rw [Hx.out, Hy.out]; exact hxy)).symm, by (repeat' (first | (with_reducible assumption) | (with_reducible exact Ext.refl _) | (with_reducible refine Ext.alloc ?_ _) | (with_reducible refine Ext.drew ?_) | (with_reducible refine Ext.drewN ?_ _) | (with_reducible refine Ext.setCell ?_ ?_ _) | (with_reducible refine Ext.trans ?_ (by assumption)) | go_size))⟩
        · obtain rfl : k = n1 := by omega
          go_wp2_with fail
          go_ret
          exact ⟨ret_bool (by rw [eq_comm, decide_eq_true_eq]; exact Globe.ext_nth (by rw [Hn1.out, Hn2.out]) fun j hj => Hp.out j (by rw [← Hn1.out]; exact hj)), by (repeat' (first | (with_reducible assumption) | (with_reducible exact Ext.refl _) | (with_reducible refine Ext.alloc ?_ _) | (with_reducible refine Ext.drew ?_) | (with_reducible refine Ext.drewN ?_ _) | (with_reducible refine Ext.setCell ?_ ?_ _) | (with_reducible refine Ext.trans ?_ (by assumption)) | go_size))⟩
  · have hd : decide (l1 = l2) = false := by
      rw [decide_eq_false_iff_not]; intro e; subst e; exact hne (by omega)
    have hni : ¬ (n1 : Int) = (n2 : Int) := by omega
    have Hd := Lib.hid hd; clear hd
    clear h1 h2 hn1 hn2
    go_enter Tryd.func69, Tryd.ntmps69
    go_wp2_with fail
    go_ret
    exact ⟨ret_bool (by rw [Hd.out]), by (repeat' (first | (with_reducible assumption) | (with_reducible exact Ext.refl _) | (with_reducible refine Ext.alloc ?_ _) | (with_reducible refine Ext.drew ?_) | (with_reducible refine Ext.drewN ?_ _) | (with_reducible refine Ext.setCell ?_ ?_ _) | (with_reducible refine Ext.trans ?_ (by assumption)) | go_size))⟩

theorem Same_c {w1 w2 : World} {a1 : Option Addr} {l1 : List Int} {n1 : Nat} (c1 : Nat) {v1 : Bool} {a2 : Option Addr} {l2 : List Int} {n2 : Nat} (c2 : Nat) {v2 : Bool} (w : World) (h1 : AA w1 a1 l1 n1 v1) (e1 : Ext w1 w) (h2 : AA w2 a2 l2 n2 v2) (e2 : Ext w2 w) :
  Calls Tryd.prog 45 #[.agg #[.slice a1 n1 c1], .agg #[.slice a2 n2 c2]] w fun e w' => e = .returned (.bool (decide (l1 = l2))) ∧ Ext w w' := by
 have H1 := Lib.hid (h1.ext e1)
 have H2 := Lib.hid (h2.ext e2)
 clear h1 h2 e1 e2
 go_enter Tryd.func45, Tryd.ntmps45
 go_wp2_with (go_at_call 69; refine (slicesEqual_c _ l1 _ _ _ l2 _ _ _ (H1.out.1.ext (by (repeat' (first | (with_reducible assumption) | (with_reducible exact Ext.refl _) | (with_reducible refine Ext.alloc ?_ _) | (with_reducible refine Ext.drew ?_) | (with_reducible refine Ext.drewN ?_ _) | (with_reducible refine Ext.setCell ?_ ?_ _) | (with_reducible refine Ext.trans ?_ (by assumption)) | go_size)))) H1.out.2.1 H1.out.2.2.1 (H2.out.1.ext (by (repeat' (first | (with_reducible assumption) | (with_reducible exact Ext.refl _) | (with_reducible refine Ext.alloc ?_ _) | (with_reducible refine Ext.drew ?_) | (with_reducible refine Ext.drewN ?_ _) | (with_reducible refine Ext.setCell ?_ ?_ _) | (with_reducible refine Ext.trans ?_ (by assumption)) | go_size)))) H2.out.2.1 H2.out.2.2.1).mono ?_; rintro e w1 ⟨rfl, hb⟩; have hc := hb.cellE; have hf := hb.frozenE; have hz := hb.size; have ha := alloc_keeps w1; (try simp only [World.size_alloc] at hc hf hz); (try simp only [World.size_setCell] at hc hf hz); (try simp only [World.size_drew] at hc hf hz))
 go_ret
 exact ⟨rfl, by (repeat' (first | (with_reducible assumption) | (with_reducible exact Ext.refl _) | (with_reducible refine Ext.alloc ?_ _) | (with_reducible refine Ext.drew ?_) | (with_reducible refine Ext.drewN ?_ _) | (with_reducible refine Ext.setCell ?_ ?_ _) | (with_reducible refine Ext.trans ?_ (by assumption)) | go_size))⟩

end Go.Proofs.YtajdohcgjgknmaaDoor

/- Contract of package product: Same. -/
namespace Go.Proofs.YtajdohcgjgknmaaDoor
open Go.RowKit

namespace Prod
def sameB (x y : Pc) : Bool := (decide (x.im = y.im) && decide (x.t = y.t)) && ((x.cl == y.cl) && decide (x.rw = y.rw))
theorem sameB_iff {x y : Pc} : sameB x y = true ↔ x = y := by
  unfold sameB
  simp only [Bool.and_eq_true, decide_eq_true_eq, beq_iff_eq]
  constructor
  · rintro ⟨⟨h1, h2⟩, h3, h4⟩
    cases x; cases y; simp_all
  · rintro rfl; exact ⟨⟨rfl, rfl⟩, rfl, rfl⟩
def sameL : List Pc → List Pc → Bool
 | [], [] => true
 | x :: a, y :: b => sameB x y && sameL a b
 | _, _ => false
theorem sameL_iff : ∀ {a b : List Pc}, sameL a b = true ↔ a = b
 | [], [] => by simp [sameL]
 | [], _ :: _ => by simp [sameL]
 | _ :: _, [] => by simp [sameL]
 | x :: a, y :: b => by rw [sameL, Bool.and_eq_true, sameB_iff, sameL_iff, List.cons.injEq]
theorem sameL_len {a b : List Pc} (h : a.length ≠ b.length) : sameL a b = false := by
 cases q : sameL a b
 · rfl
 · rw [sameL_iff.1 q] at h; exact absurd rfl h
theorem sameL_step {a b : List Pc} {i : Nat} {p q : Pc} (hp : a[i]? = some p) (hq : b[i]? = some q) : sameL (a.drop i) (b.drop i) = (sameB p q && sameL (a.drop (i + 1)) (b.drop (i + 1))) := by
 obtain ⟨hi, rfl⟩ := List.getElem?_eq_some_iff.1 hp
 obtain ⟨hj, rfl⟩ := List.getElem?_eq_some_iff.1 hq
 rw [List.drop_eq_getElem_cons hi, List.drop_eq_getElem_cons hj, sameL]
def sameP (id ver : Int) (ar : List Int) (ps : List Pc) (id2 ver2 : Int) (ar2 : List Int) (qs : List Pc) : Bool := (decide (id = id2) && decide (ver = ver2)) && (decide (ar = ar2) && sameL ps qs)
end Prod
theorem Same_q {w1 w2 : World} {a1 : Option Addr} {l1 : List Int} {n1 : Nat} (c1 : Nat) {v1 : Bool} {a2 : Option Addr} {l2 : List Int} {n2 : Nat} (c2 : Nat) {v2 r : Bool} (w : World) (h1 : AA w1 a1 l1 n1 v1) (e1 : Ext w1 w) (h2 : AA w2 a2 l2 n2 v2) (e2 : Ext w2 w) (hr : decide (l1 = l2) = r) : Calls Tryd.prog 45 #[.agg #[.slice a1 n1 c1], .agg #[.slice a2 n2 c2]] w fun e w' => e = .returned (.bool r) ∧ Ext w w' := hr ▸ Same_c c1 c2 w h1 e1 h2 e2
set_option maxRecDepth 1000000 in
set_option maxHeartbeats 4000000 in
theorem same1_c {w1 w2 : World} {x y : Prod.Pc} {a b : Option Addr} {k c m d : Nat} (w : World) (hA : AA w1 a x.rw k (Globe.validL x.rw)) (e1 : Ext w1 w) (hB : AA w2 b y.rw m (Globe.validL y.rw)) (e2 : Ext w2 w) : Calls Tryd.prog 51 #[.agg #[.int .i64 x.im, .int .i64 x.t, .bool x.cl, .slice a k c], .agg #[.int .i64 y.im, .int .i64 y.t, .bool y.cl, .slice b m d]] w fun e w' => e = .returned (.bool (Prod.sameB x y)) ∧ Ext w w' := by
 replace hA := hA.ext e1; replace hB := hB.ext e2; clear e1 e2
 refine calls_cw 31 [(1, .agg #[.int .i64 y.im, .int .i64 y.t, .bool y.cl, .slice b m d]), (0, .agg #[.int .i64 x.im, .int .i64 x.t, .bool x.cl, .slice a k c])] Tryd.func51 rfl Tryd.ntmps51 (by kernel_rfl) (by kernel_rfl) (fun L => ?_)
 have hE : Ext w w := Ext.refl w
 refine cw_seq ?_; refine cw_plain ?_
 refine pS (sn_new (us := #[.int .i64 x.im, .int .i64 x.t, .bool x.cl, .slice a k c]) (t := 41) (by kernel_rfl) ?_)
 intro O1 X2 hzO1 hyO1 hb hbx; have ⟨bO1_0, bO1_1, bO1_2, bO1_3⟩ := bx4 hbx; clear hbx
 replace hE := hE.trans hb; have hs3 := hb.size; clear hb; have lt4 := bO1_0.lt
 refine pS (sn_new (us := #[.int .i64 y.im, .int .i64 y.t, .bool y.cl, .slice b m d]) (t := 41) (by kernel_rfl) ?_)
 intro O5 X6 hzO5 hyO5 hb hbx; have ⟨bO5_0, bO5_1, bO5_2, bO5_3⟩ := bx4 hbx; clear hbx
 replace hE := hE.trans hb; replace bO1_0 := BoxAt.ext hb bO1_0; replace bO1_1 := BoxAt.ext hb bO1_1; replace bO1_2 := BoxAt.ext hb bO1_2; replace bO1_3 := BoxAt.ext hb bO1_3; have hs7 := hb.size; clear hb; have lt8 := bO5_0.lt; refine pT (.bool false) ?_; refine pl_nil ?_; refine qw_then ?_; refine cw_seq ?_
 rcases Bool.eq_false_or_eq_true (x.cl == y.cl) with hcl | hcl
 ·
  refine cw_plain ?_; refine pT (.pointer (some ⟨O1, 0, none⟩)) ?_
  refine pU (.int .i64 x.im) (ex_load rfl (by kernel_rfl) (ld3 (bO1_0.1))) ?_
  refine pT (.pointer (some ⟨O5, 0, none⟩)) ?_
  refine pU (.int .i64 y.im) (ex_load rfl (by kernel_rfl) (ld3 (bO5_0.1))) ?_
  by_cases hc9 : (x.im : Int) = (y.im : Int)
  ·
   refine pU (.bool true) (ev_eq (show _ = Result.ok (Next.value (Value.bool ((x.im : Int) == (y.im : Int)))) _ from by kernel_rfl) (hc9)) ?_
   refine pT (.bool true) ?_; refine pT (.pointer (some ⟨O1, 1, none⟩)) ?_
   refine pU (.int .i64 x.t) (ex_load rfl (by kernel_rfl) (ld3 (bO1_1.1))) ?_
   refine pT (.pointer (some ⟨O5, 1, none⟩)) ?_
   refine pU (.int .i64 y.t) (ex_load rfl (by kernel_rfl) (ld3 (bO5_1.1))) ?_
   by_cases hc10 : (x.t : Int) = (y.t : Int)
   ·
    refine pU (.bool true) (ev_eq (show _ = Result.ok (Next.value (Value.bool ((x.t : Int) == (y.t : Int)))) _ from by kernel_rfl) (hc10)) ?_
    refine pT (.bool true) ?_; refine pT (.bool true) ?_; refine pT (.pointer (some ⟨O1, 2, none⟩)) ?_
    refine pU (.bool x.cl) (ex_load rfl (by kernel_rfl) (ld4 (bO1_2.1))) ?_
    refine pT (.pointer (some ⟨O5, 2, none⟩)) ?_
    refine pU (.bool y.cl) (ex_load rfl (by kernel_rfl) (ld4 (bO5_2.1))) ?_
    refine pU (.bool true) (ev_bool (show _ = Result.ok (Next.value (Value.bool (x.cl == y.cl))) _ from by kernel_rfl) hcl) ?_
    refine pT (.bool true) ?_; refine pT (.bool true) ?_; refine pT (.pointer (some ⟨O1, 3, none⟩)) ?_
    refine pU (.agg #[.slice a k c]) (ex_load rfl (by kernel_rfl) (ld26 (bO1_3.1))) ?_
    refine pT (.pointer (some ⟨O5, 3, none⟩)) ?_
    refine pU (.agg #[.slice b m d]) (ex_load rfl (by kernel_rfl) (ld26 (bO5_3.1))) ?_
    rcases Bool.eq_false_or_eq_true (decide (x.rw = y.rw)) with hb11 | hb11
    ·
     refine pS (sn_call (f := 45) (args := #[.agg #[.slice a k c], .agg #[.slice b m d]]) (by kernel_rfl) ((Same_q (r := true) _ _ _ (hA) hE (hB) hE hb11).mono ?_))
     rintro e w12 ⟨rfl, hb⟩
     replace hE := hE.trans hb; replace bO1_0 := BoxAt.ext hb bO1_0; replace bO1_1 := BoxAt.ext hb bO1_1; replace bO1_2 := BoxAt.ext hb bO1_2; replace bO1_3 := BoxAt.ext hb bO1_3; replace bO5_0 := BoxAt.ext hb bO5_0; replace bO5_1 := BoxAt.ext hb bO5_1; replace bO5_2 := BoxAt.ext hb bO5_2; replace bO5_3 := BoxAt.ext hb bO5_3; have hs13 := hb.size; clear hb
     refine ⟨_, rfl, ?_⟩
     refine pT (.bool true) ?_; refine pT (.bool true) ?_; refine pl_nil ?_; refine qw_then ?_; refine cC1 4 (fun L => ?_)
     refine cw_ret ?_
     refine qw_ret [.bool true] rfl ⟨(by kernel_rfl), trivial⟩ ?_
     exact ⟨congrArg (fun b => Ending.returned (Value.bool b)) (show Prod.sameB x y = true by unfold Prod.sameB; simp [hb11, hc9, hc10, hcl]).symm, hE⟩
    ·
     refine pS (sn_call (f := 45) (args := #[.agg #[.slice a k c], .agg #[.slice b m d]]) (by kernel_rfl) ((Same_q (r := false) _ _ _ (hA) hE (hB) hE hb11).mono ?_))
     rintro e w14 ⟨rfl, hb⟩
     replace hE := hE.trans hb; replace bO1_0 := BoxAt.ext hb bO1_0; replace bO1_1 := BoxAt.ext hb bO1_1; replace bO1_2 := BoxAt.ext hb bO1_2; replace bO1_3 := BoxAt.ext hb bO1_3; replace bO5_0 := BoxAt.ext hb bO5_0; replace bO5_1 := BoxAt.ext hb bO5_1; replace bO5_2 := BoxAt.ext hb bO5_2; replace bO5_3 := BoxAt.ext hb bO5_3; have hs15 := hb.size; clear hb
     refine ⟨_, rfl, ?_⟩
     refine pT (.bool false) ?_; refine pT (.bool false) ?_; refine pl_nil ?_; refine qw_then ?_; refine cC1 4 (fun L => ?_)
     refine cw_ret ?_
     refine qw_ret [.bool false] rfl ⟨(by kernel_rfl), trivial⟩ ?_
     exact ⟨congrArg (fun b => Ending.returned (Value.bool b)) (show Prod.sameB x y = false by unfold Prod.sameB; simp [hb11, hc9, hc10, hcl]).symm, hE⟩
   ·
    refine pU (.bool false) (ev_neq (show _ = Result.ok (Next.value (Value.bool ((x.t : Int) == (y.t : Int)))) _ from by kernel_rfl) (hc10)) ?_
    refine pT (.bool false) ?_; refine pT (.bool false) ?_; refine pK ?_; refine pK ?_; refine pK ?_; refine pK ?_; refine pK ?_; refine pT (.bool false) ?_; refine pT (.bool false) ?_; refine pK ?_; refine pK ?_; refine pK ?_; refine pK ?_; refine pK ?_; refine pT (.bool false) ?_; refine pT (.bool false) ?_; refine pl_nil ?_; refine qw_then ?_; refine cC1 4 (fun L => ?_)
    refine cw_ret ?_
    refine qw_ret [.bool false] rfl ⟨(by kernel_rfl), trivial⟩ ?_
    exact ⟨congrArg (fun b => Ending.returned (Value.bool b)) (show Prod.sameB x y = false by unfold Prod.sameB; simp [hc9, hc10, hcl]).symm, hE⟩
  ·
   refine pU (.bool false) (ev_neq (show _ = Result.ok (Next.value (Value.bool ((x.im : Int) == (y.im : Int)))) _ from by kernel_rfl) (hc9)) ?_
   refine pT (.bool false) ?_; refine pK ?_; refine pK ?_; refine pK ?_; refine pK ?_; refine pK ?_; refine pT (.bool false) ?_; refine pT (.bool false) ?_; refine pK ?_; refine pK ?_; refine pK ?_; refine pK ?_; refine pK ?_; refine pT (.bool false) ?_; refine pT (.bool false) ?_; refine pK ?_; refine pK ?_; refine pK ?_; refine pK ?_; refine pK ?_; refine pT (.bool false) ?_; refine pT (.bool false) ?_; refine pl_nil ?_; refine qw_then ?_; refine cC1 4 (fun L => ?_)
   refine cw_ret ?_
   refine qw_ret [.bool false] rfl ⟨(by kernel_rfl), trivial⟩ ?_
   exact ⟨congrArg (fun b => Ending.returned (Value.bool b)) (show Prod.sameB x y = false by unfold Prod.sameB; simp [hc9, hcl]).symm, hE⟩
 ·
  refine cw_plain ?_; refine pT (.pointer (some ⟨O1, 0, none⟩)) ?_
  refine pU (.int .i64 x.im) (ex_load rfl (by kernel_rfl) (ld3 (bO1_0.1))) ?_
  refine pT (.pointer (some ⟨O5, 0, none⟩)) ?_
  refine pU (.int .i64 y.im) (ex_load rfl (by kernel_rfl) (ld3 (bO5_0.1))) ?_
  by_cases hc16 : (x.im : Int) = (y.im : Int)
  ·
   refine pU (.bool true) (ev_eq (show _ = Result.ok (Next.value (Value.bool ((x.im : Int) == (y.im : Int)))) _ from by kernel_rfl) (hc16)) ?_
   refine pT (.bool true) ?_; refine pT (.pointer (some ⟨O1, 1, none⟩)) ?_
   refine pU (.int .i64 x.t) (ex_load rfl (by kernel_rfl) (ld3 (bO1_1.1))) ?_
   refine pT (.pointer (some ⟨O5, 1, none⟩)) ?_
   refine pU (.int .i64 y.t) (ex_load rfl (by kernel_rfl) (ld3 (bO5_1.1))) ?_
   by_cases hc17 : (x.t : Int) = (y.t : Int)
   ·
    refine pU (.bool true) (ev_eq (show _ = Result.ok (Next.value (Value.bool ((x.t : Int) == (y.t : Int)))) _ from by kernel_rfl) (hc17)) ?_
    refine pT (.bool true) ?_; refine pT (.bool true) ?_; refine pT (.pointer (some ⟨O1, 2, none⟩)) ?_
    refine pU (.bool x.cl) (ex_load rfl (by kernel_rfl) (ld4 (bO1_2.1))) ?_
    refine pT (.pointer (some ⟨O5, 2, none⟩)) ?_
    refine pU (.bool y.cl) (ex_load rfl (by kernel_rfl) (ld4 (bO5_2.1))) ?_
    refine pU (.bool false) (ev_bool (show _ = Result.ok (Next.value (Value.bool (x.cl == y.cl))) _ from by kernel_rfl) hcl) ?_
    refine pT (.bool false) ?_; refine pT (.bool false) ?_; refine pK ?_; refine pK ?_; refine pK ?_; refine pK ?_; refine pK ?_; refine pT (.bool false) ?_; refine pT (.bool false) ?_; refine pl_nil ?_; refine qw_then ?_; refine cC1 4 (fun L => ?_)
    refine cw_ret ?_
    refine qw_ret [.bool false] rfl ⟨(by kernel_rfl), trivial⟩ ?_
    exact ⟨congrArg (fun b => Ending.returned (Value.bool b)) (show Prod.sameB x y = false by unfold Prod.sameB; simp [hc16, hc17, hcl]).symm, hE⟩
   ·
    refine pU (.bool false) (ev_neq (show _ = Result.ok (Next.value (Value.bool ((x.t : Int) == (y.t : Int)))) _ from by kernel_rfl) (hc17)) ?_
    refine pT (.bool false) ?_; refine pT (.bool false) ?_; refine pK ?_; refine pK ?_; refine pK ?_; refine pK ?_; refine pK ?_; refine pT (.bool false) ?_; refine pT (.bool false) ?_; refine pK ?_; refine pK ?_; refine pK ?_; refine pK ?_; refine pK ?_; refine pT (.bool false) ?_; refine pT (.bool false) ?_; refine pl_nil ?_; refine qw_then ?_; refine cC1 4 (fun L => ?_)
    refine cw_ret ?_
    refine qw_ret [.bool false] rfl ⟨(by kernel_rfl), trivial⟩ ?_
    exact ⟨congrArg (fun b => Ending.returned (Value.bool b)) (show Prod.sameB x y = false by unfold Prod.sameB; simp [hc16, hc17, hcl]).symm, hE⟩
  ·
   refine pU (.bool false) (ev_neq (show _ = Result.ok (Next.value (Value.bool ((x.im : Int) == (y.im : Int)))) _ from by kernel_rfl) (hc16)) ?_
   refine pT (.bool false) ?_; refine pK ?_; refine pK ?_; refine pK ?_; refine pK ?_; refine pK ?_; refine pT (.bool false) ?_; refine pT (.bool false) ?_; refine pK ?_; refine pK ?_; refine pK ?_; refine pK ?_; refine pK ?_; refine pT (.bool false) ?_; refine pT (.bool false) ?_; refine pK ?_; refine pK ?_; refine pK ?_; refine pK ?_; refine pK ?_; refine pT (.bool false) ?_; refine pT (.bool false) ?_; refine pl_nil ?_; refine qw_then ?_; refine cC1 4 (fun L => ?_)
   refine cw_ret ?_
   refine qw_ret [.bool false] rfl ⟨(by kernel_rfl), trivial⟩ ?_
   exact ⟨congrArg (fun b => Ending.returned (Value.bool b)) (show Prod.sameB x y = false by unfold Prod.sameB; simp [hc16, hcl]).symm, hE⟩
theorem same1_r {w1 w2 : World} {x y : Prod.Pc} {a b : Option Addr} {k c m d : Nat} {r f g : Bool} (w : World) (hA : AA w1 a x.rw k f) (e1 : Ext w1 w) (hB : AA w2 b y.rw m g) (e2 : Ext w2 w) (hr : Prod.sameB x y = r) : Calls Tryd.prog 51 #[.agg #[.int .i64 x.im, .int .i64 x.t, .bool x.cl, .slice a k c], .agg #[.int .i64 y.im, .int .i64 y.t, .bool y.cl, .slice b m d]] w fun e w' => e = .returned (.bool r) ∧ Ext w w' := hr ▸ same1_c w (aa_q hA) e1 (aa_q hB) e2
set_option maxRecDepth 1000000 in
set_option maxHeartbeats 4000000 in
theorem EqualF_c {w1 w2 : World} {a b : Option Addr} {n m : Nat} {l t : List Prod.Pc} (c d : Nat) (w : World) (h : PcsAt w1 a n l) (e1 : Ext w1 w) (k : PcsAt w2 b m t) (e2 : Ext w2 w) : Calls Tryd.prog 52 #[.slice a n c, .slice b m d, .func (.func 51) #[] #[]] w fun e w' => e = .returned (.bool (Prod.sameL l t)) ∧ Ext w w' := by
 replace h := h.ext e1; replace k := k.ext e2; have hnb := h.max; have hln := h.len; have hmb := k.max; have hlm := k.len; clear e1 e2
 refine calls_cw 32 [(2, .func (.func 51) #[] #[]), (1, .slice b m d), (0, .slice a n c)] Tryd.func52 rfl Tryd.ntmps52 (by kernel_rfl) (by kernel_rfl) (fun L => ?_)
 have hE : Ext w w := Ext.refl w
 refine cw_seq ?_; refine cw_plain ?_; refine pT (.bool false) ?_; refine pl_nil ?_; refine qw_then ?_; refine cw_seq ?_; refine cw_seq ?_; refine cw_plain ?_; refine pT (.slice a n c) ?_; refine pT (.int .i64 (((n : Nat) : Int) : Int)) ?_; refine pT (.slice b m d) ?_; refine pT (.int .i64 (((m : Nat) : Int) : Int)) ?_
 by_cases hc1 : (((n : Nat) : Int) : Int) = (((m : Nat) : Int) : Int)
 ·
  refine pU (.bool false) (ev_nne (show _ = Result.ok (Next.value (Value.bool ((((n : Nat) : Int) : Int) != (((m : Nat) : Int) : Int)))) _ from by kernel_rfl) (hc1)) ?_
  refine pl_nil ?_; refine qw_then ?_
  refine cw_f (by kernel_rfl) ?_
  refine cw_skip ?_
  refine qw_then ?_; refine cw_seq ?_; refine cw_seq ?_
  obtain rfl : n = m := by omega
  refine cw_plain ?_; refine pT (.slice a n c) ?_; refine pT (.int .i64 (((n : Nat) : Int) : Int)) ?_; refine pT (.int .i64 0) ?_; refine pl_nil ?_; refine qw_then ?_
  refine cw_block ?_
  refine cw_loop [1, 2, 15, 16, 17] (fun ws' wr m => ∃ i : Nat, ws' = [(1, .slice b n d), (2, .func (.func 51) #[] #[]), (15, .slice a n c), (16, .int .i64 (((n : Nat) : Int) : Int)), (17, .int .i64 (((i : Nat) : Int) : Int))] ∧ m = n - i ∧ w.heap.size ≤ wr.heap.size ∧ Ext w wr ∧ i ≤ n ∧ Prod.sameL l t = Prod.sameL (l.drop i) (t.drop i)) (ws0 := [(1, .slice b n d), (2, .func (.func 51) #[] #[]), (15, .slice a n c), (16, .int .i64 (((n : Nat) : Int) : Int)), (17, .int .i64 0)]) (by kernel_rfl) _ ⟨0, rfl, rfl, Nat.le_refl _, hE, by omega, rfl⟩ ?_
  clear hE
  rintro m4 L ws w3 ⟨i, rfl, rfl, hs2, hE, hi, Hv⟩
  by_cases hlt : i < n
  ·
   obtain ⟨b5, o6, p, ar7, k8, c9, rfl, hx10, hp11, hp12, hp13, hp14, hA15⟩ := h.at hlt
   obtain ⟨b16, o17, q, ar18, k19, c20, rfl, hx21, hp22, hp23, hp24, hp25, hA26⟩ := k.at hlt
   have hst := Prod.sameL_step hx10 hx21
   refine cw_seq ?_; refine cw_plain ?_
   refine pU (.bool true) (ev_dec (show _ = Result.ok (Next.value (Value.bool (decide ((((i : Nat) : Int) : Int) < (((n : Nat) : Int) : Int))))) _ from by kernel_rfl) (by omega)) ?_
   refine pl_nil ?_; refine qw_then ?_; refine cw_seq ?_
   refine cw_t (by kernel_rfl) ?_
   refine cw_skip ?_
   refine qw_then ?_; refine cw_seq ?_
   refine cw_block ?_
   refine cw_seq ?_; refine cw_plain ?_; refine pT (.int .i64 (((i : Nat) : Int) : Int)) ?_
   refine pU (.pointer (some ⟨b5, o6 + i * 4, none⟩)) (ex_index (p := .slice (some ⟨b5, o6, none⟩) n c) (i := .int .i64 ((i : Nat) : Int)) rfl (by kernel_rfl) (by kernel_rfl) (ix28 (k := i) (by omega))) ?_
   refine pU (.agg #[.int .i64 p.im, .int .i64 p.t, .bool p.cl, .slice ar7 k8 c9]) (ex_load rfl (by kernel_rfl) (ld41 ((hE.cell hp11)) ((hE.cell hp12)) ((hE.cell hp13)) ((hE.cell hp14)))) ?_
   refine pS (sn_new (us := #[.int .i64 0, .int .i64 0, .bool false, .slice none 0 0]) (t := 41) (by kernel_rfl) ?_)
   intro O27 X28 hzO27 hyO27 hb hbx; have ⟨bO27_0, bO27_1, bO27_2, bO27_3⟩ := bx4 hbx; clear hbx
   replace hE := hE.trans hb; have hs29 := hb.size; clear hb; have lt30 := bO27_0.lt; refine pT (.int .i64 (((i : Nat) : Int) : Int)) ?_
   refine pP (sn_setK4 (O := O27) (j := 0) (v0 := .int .i64 p.im) (v1 := .int .i64 p.t) (v2 := .bool p.cl) (v3 := .slice ar7 k8 c9) (ex_store (p := .pointer (some ⟨O27, 0, none⟩)) (v := .agg #[.int .i64 p.im, .int .i64 p.t, .bool p.cl, .slice ar7 k8 c9]) rfl (by kernel_rfl) (by kernel_rfl) (st41 bO27_0.1 bO27_0.2 bO27_1.1 bO27_1.2 bO27_2.1 bO27_2.2 bO27_3.1 bO27_3.2)) bO27_0 bO27_1 bO27_2 bO27_3 ?_)
   intro X31 ho hv0 hv1 hv2 hv3 hk; replace hE := ho.ext hE (T hs2 (Nat.le_of_eq hzO27)); have hs32 : X28.heap.size ≤ X31.heap.size := Nat.le_of_eq ho.size.symm; clear ho hk bO27_0 bO27_1 bO27_2 bO27_3; have bO27_0 := hv0; clear hv0; have bO27_1 := hv1; clear hv1; have bO27_2 := hv2; clear hv2; have bO27_3 := hv3; clear hv3; refine pl_nil ?_; refine qw_then ?_; refine cw_seq ?_; refine cw_plain ?_; refine pT (.slice (some ⟨b16, o17, none⟩) n d) ?_; refine pT (.int .i64 (((i : Nat) : Int) : Int)) ?_
   refine pU (.pointer (some ⟨b16, o17 + i * 4, none⟩)) (ex_index (p := .slice (some ⟨b16, o17, none⟩) n d) (i := .int .i64 ((i : Nat) : Int)) rfl (by kernel_rfl) (by kernel_rfl) (ix28 (k := i) (by omega))) ?_
   refine pU (.agg #[.int .i64 q.im, .int .i64 q.t, .bool q.cl, .slice ar18 k19 c20]) (ex_load rfl (by kernel_rfl) (ld41 ((hE.cell hp22)) ((hE.cell hp23)) ((hE.cell hp24)) ((hE.cell hp25)))) ?_
   refine pS (sn_new (us := #[.int .i64 0, .int .i64 0, .bool false, .slice none 0 0]) (t := 41) (by kernel_rfl) ?_)
   intro O33 X34 hzO33 hyO33 hb hbx; have ⟨bO33_0, bO33_1, bO33_2, bO33_3⟩ := bx4 hbx; clear hbx
   replace hE := hE.trans hb; replace bO27_0 := BoxAt.ext hb bO27_0; replace bO27_1 := BoxAt.ext hb bO27_1; replace bO27_2 := BoxAt.ext hb bO27_2; replace bO27_3 := BoxAt.ext hb bO27_3; have hs35 := hb.size; clear hb; have lt36 := bO33_0.lt
   refine pP (sn_setK4 (O := O33) (j := 0) (v0 := .int .i64 q.im) (v1 := .int .i64 q.t) (v2 := .bool q.cl) (v3 := .slice ar18 k19 c20) (ex_store (p := .pointer (some ⟨O33, 0, none⟩)) (v := .agg #[.int .i64 q.im, .int .i64 q.t, .bool q.cl, .slice ar18 k19 c20]) rfl (by kernel_rfl) (by kernel_rfl) (st41 bO33_0.1 bO33_0.2 bO33_1.1 bO33_1.2 bO33_2.1 bO33_2.2 bO33_3.1 bO33_3.2)) bO33_0 bO33_1 bO33_2 bO33_3 ?_)
   intro X37 ho hv0 hv1 hv2 hv3 hk; replace hE := ho.ext hE (T (T hs2 (T hs29 hs32)) (Nat.le_of_eq hzO33))
   have q9 := fun (j : Nat) (v : Value) (h : BoxAt _ O27 j v) => ho.box (Nat.ne_of_gt (Nat.lt_of_lt_of_le lt30 (T hs32 (Nat.le_of_eq hzO33)))) h
   replace bO27_0 := q9 _ _ bO27_0; replace bO27_1 := q9 _ _ bO27_1; replace bO27_2 := q9 _ _ bO27_2; replace bO27_3 := q9 _ _ bO27_3; clear q9; have hs38 : X34.heap.size ≤ X37.heap.size := Nat.le_of_eq ho.size.symm; clear ho hk bO33_0 bO33_1 bO33_2 bO33_3; have bO33_0 := hv0; clear hv0; have bO33_1 := hv1; clear hv1; have bO33_2 := hv2; clear hv2; have bO33_3 := hv3; clear hv3; refine pl_nil ?_; refine qw_then ?_; refine cC7 1 2 8 9 15 16 17 (fun L => ?_); refine cw_seq ?_; refine cw_plain ?_; refine pT (.func (.func 51) #[] #[]) ?_
   refine pU (.agg #[.int .i64 p.im, .int .i64 p.t, .bool p.cl, .slice ar7 k8 c9]) (ex_load rfl (by kernel_rfl) (ld41 (bO27_0.1) (bO27_1.1) (bO27_2.1) (bO27_3.1))) ?_
   refine pU (.agg #[.int .i64 q.im, .int .i64 q.t, .bool q.cl, .slice ar18 k19 c20]) (ex_load rfl (by kernel_rfl) (ld41 (bO33_0.1) (bO33_1.1) (bO33_2.1) (bO33_3.1))) ?_
   rcases Bool.eq_false_or_eq_true (Prod.sameB p q) with hb39 | hb39
   ·
    refine pS (sn_call (f := 51) (args := #[.agg #[.int .i64 p.im, .int .i64 p.t, .bool p.cl, .slice ar7 k8 c9], .agg #[.int .i64 q.im, .int .i64 q.t, .bool q.cl, .slice ar18 k19 c20]]) (by kernel_rfl) ((same1_r (x := p) (y := q) (r := true) _ (hA15) hE (hA26) hE hb39).mono ?_))
    rintro e w40 ⟨rfl, hb⟩
    replace hE := hE.trans hb; replace bO27_0 := BoxAt.ext hb bO27_0; replace bO27_1 := BoxAt.ext hb bO27_1; replace bO27_2 := BoxAt.ext hb bO27_2; replace bO27_3 := BoxAt.ext hb bO27_3; replace bO33_0 := BoxAt.ext hb bO33_0; replace bO33_1 := BoxAt.ext hb bO33_1; replace bO33_2 := BoxAt.ext hb bO33_2; replace bO33_3 := BoxAt.ext hb bO33_3; have hs41 := hb.size; clear hb
    refine ⟨_, rfl, ?_⟩
    refine pT (.bool false) ?_; refine pl_nil ?_; refine qw_then ?_
    refine cw_f (by kernel_rfl) ?_
    refine cw_skip ?_
    refine qw_block ?_
    refine qw_then ?_; refine cw_plain ?_
    refine pU (.int .i64 (((i + 1 : Nat) : Int) : Int)) (ev_wrap (by kernel_rfl) (by omega) (by omega)) ?_
    refine pT (.int .i64 (((i + 1 : Nat) : Int) : Int)) ?_; refine pl_nil ?_
    refine qw_round [1, 2, 15, 16, 17] (ws' := [(1, .slice (some ⟨b16, o17, none⟩) n d), (2, .func (.func 51) #[] #[]), (15, .slice (some ⟨b5, o6, none⟩) n c), (16, .int .i64 (((n : Nat) : Int) : Int)), (17, .int .i64 (((i + 1 : Nat) : Int) : Int))]) (by kernel_rfl) _ ?_ ⟨(i + 1), rfl, rfl, (T hs2 (T hs29 (T hs32 (T hs35 (T hs38 hs41))))), hE, by omega, (by rw [Hv, hst, hb39]; rfl)⟩
    omega
   ·
    refine pS (sn_call (f := 51) (args := #[.agg #[.int .i64 p.im, .int .i64 p.t, .bool p.cl, .slice ar7 k8 c9], .agg #[.int .i64 q.im, .int .i64 q.t, .bool q.cl, .slice ar18 k19 c20]]) (by kernel_rfl) ((same1_r (x := p) (y := q) (r := false) _ (hA15) hE (hA26) hE hb39).mono ?_))
    rintro e w42 ⟨rfl, hb⟩
    replace hE := hE.trans hb; replace bO27_0 := BoxAt.ext hb bO27_0; replace bO27_1 := BoxAt.ext hb bO27_1; replace bO27_2 := BoxAt.ext hb bO27_2; replace bO27_3 := BoxAt.ext hb bO27_3; replace bO33_0 := BoxAt.ext hb bO33_0; replace bO33_1 := BoxAt.ext hb bO33_1; replace bO33_2 := BoxAt.ext hb bO33_2; replace bO33_3 := BoxAt.ext hb bO33_3; have hs43 := hb.size; clear hb
    refine ⟨_, rfl, ?_⟩
    refine pT (.bool true) ?_; refine pl_nil ?_; refine qw_then ?_
    refine cw_t (by kernel_rfl) ?_
    refine cw_seq ?_; refine cw_plain ?_; refine pT (.bool false) ?_; refine pl_nil ?_; refine qw_then ?_
    refine cw_ret ?_
    refine qw_block_ret ?_
    refine qw_then_ret ?_
    refine qw_then_ret ?_
    refine qw_block_ret ?_
    refine qw_then_ret ?_
    refine qw_ret [.bool false] rfl ⟨(by kernel_rfl), trivial⟩ ?_
    exact ⟨congrArg (fun b => Ending.returned (Value.bool b)) (show Prod.sameL l t = false from by rw [Hv, hst, hb39]; rfl).symm, hE⟩
  ·
   have hin : i = n := by omega
   refine cw_seq ?_; refine cw_plain ?_
   refine pU (.bool false) (ev_ndec (show _ = Result.ok (Next.value (Value.bool (decide ((((i : Nat) : Int) : Int) < (((n : Nat) : Int) : Int))))) _ from by kernel_rfl) (by omega)) ?_
   refine pl_nil ?_; refine qw_then ?_; refine cw_seq ?_
   refine cw_f (by kernel_rfl) ?_
   refine cw_exit ?_
   refine qw_then_exit ?_
   refine qw_then_exit ?_
   refine qw_block_out ?_
   refine qw_then ?_; refine cw_seq ?_; refine cw_plain ?_; refine pT (.bool true) ?_; refine pl_nil ?_; refine qw_then ?_
   refine cw_ret ?_
   refine qw_ret [.bool true] rfl ⟨(by kernel_rfl), trivial⟩ ?_
   exact ⟨congrArg (fun b => Ending.returned (Value.bool b)) (show Prod.sameL l t = true from by rw [Hv, hin, List.drop_of_length_le (Nat.le_of_eq hln), List.drop_of_length_le (Nat.le_of_eq hlm)]; rfl).symm, hE⟩
 ·
  refine pU (.bool true) (ev_ne (show _ = Result.ok (Next.value (Value.bool ((((n : Nat) : Int) : Int) != (((m : Nat) : Int) : Int)))) _ from by kernel_rfl) (hc1)) ?_
  refine pl_nil ?_; refine qw_then ?_
  refine cw_t (by kernel_rfl) ?_
  refine cw_seq ?_; refine cw_plain ?_; refine pT (.bool false) ?_; refine pl_nil ?_; refine qw_then ?_
  refine cw_ret ?_
  refine qw_then_ret ?_
  refine qw_ret [.bool false] rfl ⟨(by kernel_rfl), trivial⟩ ?_
  exact ⟨congrArg (fun b => Ending.returned (Value.bool b)) (show Prod.sameL l t = false from Prod.sameL_len (by omega)).symm, hE⟩
theorem EqualF_r {w1 w2 : World} {a b : Option Addr} {n m : Nat} {l t : List Prod.Pc} {r : Bool} (c d : Nat) (w : World) (h : PcsAt w1 a n l) (e1 : Ext w1 w) (k : PcsAt w2 b m t) (e2 : Ext w2 w) (hr : Prod.sameL l t = r) : Calls Tryd.prog 52 #[.slice a n c, .slice b m d, .func (.func 51) #[] #[]] w fun e w' => e = .returned (.bool r) ∧ Ext w w' := hr ▸ EqualF_c c d w h e1 k e2
set_option maxRecDepth 1000000 in
set_option maxHeartbeats 4000000 in
theorem pSame_c {w1 w2 w3 w4 : World} {id ver id2 ver2 : Int} {ar ar2 : List Int} {ps qs : List Prod.Pc} {a1 a b1 b : Option Addr} {n1 n m1 m : Nat} (c1 c d1 d : Nat) (w : World) (hA : AA w1 a1 ar n1 (Globe.validL ar)) (e1 : Ext w1 w) (hP : PcsAt w2 a n ps) (e2 : Ext w2 w) (hB : AA w3 b1 ar2 m1 (Globe.validL ar2)) (e3 : Ext w3 w) (hQ : PcsAt w4 b m qs) (e4 : Ext w4 w) : Calls Tryd.prog 27 #[.agg #[.int .i64 id, .int .i64 ver, .slice a1 n1 c1, .slice a n c], .agg #[.int .i64 id2, .int .i64 ver2, .slice b1 m1 d1, .slice b m d]] w fun e w' => e = .returned (.bool (Prod.sameP id ver ar ps id2 ver2 ar2 qs)) ∧ Ext w w' := by
 replace hA := hA.ext e1; replace hP := hP.ext e2; replace hB := hB.ext e3; replace hQ := hQ.ext e4; clear e1 e2 e3 e4
 refine calls_cw 33 [(1, .agg #[.int .i64 id2, .int .i64 ver2, .slice b1 m1 d1, .slice b m d]), (0, .agg #[.int .i64 id, .int .i64 ver, .slice a1 n1 c1, .slice a n c])] Tryd.func27 rfl Tryd.ntmps27 (by kernel_rfl) (by kernel_rfl) (fun L => ?_)
 have hE : Ext w w := Ext.refl w
 refine cw_seq ?_; refine cw_plain ?_
 refine pS (sn_new (us := #[.int .i64 id, .int .i64 ver, .slice a1 n1 c1, .slice a n c]) (t := 31) (by kernel_rfl) ?_)
 intro O1 X2 hzO1 hyO1 hb hbx; have ⟨bO1_0, bO1_1, bO1_2, bO1_3⟩ := bx4 hbx; clear hbx
 replace hE := hE.trans hb; have hs3 := hb.size; clear hb; have lt4 := bO1_0.lt
 refine pS (sn_new (us := #[.int .i64 id2, .int .i64 ver2, .slice b1 m1 d1, .slice b m d]) (t := 31) (by kernel_rfl) ?_)
 intro O5 X6 hzO5 hyO5 hb hbx; have ⟨bO5_0, bO5_1, bO5_2, bO5_3⟩ := bx4 hbx; clear hbx
 replace hE := hE.trans hb; replace bO1_0 := BoxAt.ext hb bO1_0; replace bO1_1 := BoxAt.ext hb bO1_1; replace bO1_2 := BoxAt.ext hb bO1_2; replace bO1_3 := BoxAt.ext hb bO1_3; have hs7 := hb.size; clear hb; have lt8 := bO5_0.lt; refine pT (.bool false) ?_; refine pl_nil ?_; refine qw_then ?_; refine cw_seq ?_; refine cw_plain ?_; refine pT (.func (.func 51) #[] #[]) ?_; refine pl_nil ?_; refine qw_then ?_; refine cw_seq ?_; refine cw_plain ?_; refine pT (.pointer (some ⟨O1, 0, none⟩)) ?_
 refine pU (.int .i64 id) (ex_load rfl (by kernel_rfl) (ld3 (bO1_0.1))) ?_
 refine pT (.pointer (some ⟨O5, 0, none⟩)) ?_
 refine pU (.int .i64 id2) (ex_load rfl (by kernel_rfl) (ld3 (bO5_0.1))) ?_
 by_cases hc9 : (id : Int) = (id2 : Int)
 ·
  refine pU (.bool true) (ev_eq (show _ = Result.ok (Next.value (Value.bool ((id : Int) == (id2 : Int)))) _ from by kernel_rfl) (hc9)) ?_
  refine pT (.bool true) ?_; refine pT (.pointer (some ⟨O1, 1, none⟩)) ?_
  refine pU (.int .i64 ver) (ex_load rfl (by kernel_rfl) (ld3 (bO1_1.1))) ?_
  refine pT (.pointer (some ⟨O5, 1, none⟩)) ?_
  refine pU (.int .i64 ver2) (ex_load rfl (by kernel_rfl) (ld3 (bO5_1.1))) ?_
  by_cases hc10 : (ver : Int) = (ver2 : Int)
  ·
   refine pU (.bool true) (ev_eq (show _ = Result.ok (Next.value (Value.bool ((ver : Int) == (ver2 : Int)))) _ from by kernel_rfl) (hc10)) ?_
   refine pT (.bool true) ?_; refine pT (.bool true) ?_; refine pT (.pointer (some ⟨O1, 2, none⟩)) ?_
   refine pU (.agg #[.slice a1 n1 c1]) (ex_load rfl (by kernel_rfl) (ld26 (bO1_2.1))) ?_
   refine pT (.pointer (some ⟨O5, 2, none⟩)) ?_
   refine pU (.agg #[.slice b1 m1 d1]) (ex_load rfl (by kernel_rfl) (ld26 (bO5_2.1))) ?_
   rcases Bool.eq_false_or_eq_true (decide (ar = ar2)) with hb11 | hb11
   ·
    refine pS (sn_call (f := 45) (args := #[.agg #[.slice a1 n1 c1], .agg #[.slice b1 m1 d1]]) (by kernel_rfl) ((Same_q (r := true) _ _ _ (hA) hE (hB) hE hb11).mono ?_))
    rintro e w12 ⟨rfl, hb⟩
    replace hE := hE.trans hb; replace bO1_0 := BoxAt.ext hb bO1_0; replace bO1_1 := BoxAt.ext hb bO1_1; replace bO1_2 := BoxAt.ext hb bO1_2; replace bO1_3 := BoxAt.ext hb bO1_3; replace bO5_0 := BoxAt.ext hb bO5_0; replace bO5_1 := BoxAt.ext hb bO5_1; replace bO5_2 := BoxAt.ext hb bO5_2; replace bO5_3 := BoxAt.ext hb bO5_3; have hs13 := hb.size; clear hb
    refine ⟨_, rfl, ?_⟩
    refine pT (.bool true) ?_; refine pT (.bool true) ?_; refine pT (.pointer (some ⟨O1, 3, none⟩)) ?_
    refine pU (.slice a n c) (ex_load rfl (by kernel_rfl) (ld28 (bO1_3.1))) ?_
    refine pT (.pointer (some ⟨O5, 3, none⟩)) ?_
    refine pU (.slice b m d) (ex_load rfl (by kernel_rfl) (ld28 (bO5_3.1))) ?_
    refine pT (.func (.func 51) #[] #[]) ?_
    rcases Bool.eq_false_or_eq_true (Prod.sameL ps qs) with hb14 | hb14
    ·
     refine pS (sn_call (f := 52) (args := #[.slice a n c, .slice b m d, .func (.func 51) #[] #[]]) (by kernel_rfl) ((EqualF_r (r := true) _ _ _ (hP) hE (hQ) hE hb14).mono ?_))
     rintro e w15 ⟨rfl, hb⟩
     replace hE := hE.trans hb; replace bO1_0 := BoxAt.ext hb bO1_0; replace bO1_1 := BoxAt.ext hb bO1_1; replace bO1_2 := BoxAt.ext hb bO1_2; replace bO1_3 := BoxAt.ext hb bO1_3; replace bO5_0 := BoxAt.ext hb bO5_0; replace bO5_1 := BoxAt.ext hb bO5_1; replace bO5_2 := BoxAt.ext hb bO5_2; replace bO5_3 := BoxAt.ext hb bO5_3; have hs16 := hb.size; clear hb
     refine ⟨_, rfl, ?_⟩
     refine pT (.bool true) ?_; refine pT (.bool true) ?_; refine pl_nil ?_; refine qw_then ?_; refine cC1 4 (fun L => ?_)
     refine cw_ret ?_
     refine qw_ret [.bool true] rfl ⟨(by kernel_rfl), trivial⟩ ?_
     exact ⟨congrArg (fun b => Ending.returned (Value.bool b)) (show Prod.sameP id ver ar ps id2 ver2 ar2 qs = true by unfold Prod.sameP; simp [hb11, hb14, hc9, hc10]).symm, hE⟩
    ·
     refine pS (sn_call (f := 52) (args := #[.slice a n c, .slice b m d, .func (.func 51) #[] #[]]) (by kernel_rfl) ((EqualF_r (r := false) _ _ _ (hP) hE (hQ) hE hb14).mono ?_))
     rintro e w17 ⟨rfl, hb⟩
     replace hE := hE.trans hb; replace bO1_0 := BoxAt.ext hb bO1_0; replace bO1_1 := BoxAt.ext hb bO1_1; replace bO1_2 := BoxAt.ext hb bO1_2; replace bO1_3 := BoxAt.ext hb bO1_3; replace bO5_0 := BoxAt.ext hb bO5_0; replace bO5_1 := BoxAt.ext hb bO5_1; replace bO5_2 := BoxAt.ext hb bO5_2; replace bO5_3 := BoxAt.ext hb bO5_3; have hs18 := hb.size; clear hb
     refine ⟨_, rfl, ?_⟩
     refine pT (.bool false) ?_; refine pT (.bool false) ?_; refine pl_nil ?_; refine qw_then ?_; refine cC1 4 (fun L => ?_)
     refine cw_ret ?_
     refine qw_ret [.bool false] rfl ⟨(by kernel_rfl), trivial⟩ ?_
     exact ⟨congrArg (fun b => Ending.returned (Value.bool b)) (show Prod.sameP id ver ar ps id2 ver2 ar2 qs = false by unfold Prod.sameP; simp [hb11, hb14, hc9, hc10]).symm, hE⟩
   ·
    refine pS (sn_call (f := 45) (args := #[.agg #[.slice a1 n1 c1], .agg #[.slice b1 m1 d1]]) (by kernel_rfl) ((Same_q (r := false) _ _ _ (hA) hE (hB) hE hb11).mono ?_))
    rintro e w19 ⟨rfl, hb⟩
    replace hE := hE.trans hb; replace bO1_0 := BoxAt.ext hb bO1_0; replace bO1_1 := BoxAt.ext hb bO1_1; replace bO1_2 := BoxAt.ext hb bO1_2; replace bO1_3 := BoxAt.ext hb bO1_3; replace bO5_0 := BoxAt.ext hb bO5_0; replace bO5_1 := BoxAt.ext hb bO5_1; replace bO5_2 := BoxAt.ext hb bO5_2; replace bO5_3 := BoxAt.ext hb bO5_3; have hs20 := hb.size; clear hb
    refine ⟨_, rfl, ?_⟩
    refine pT (.bool false) ?_; refine pT (.bool false) ?_; refine pK ?_; refine pK ?_; refine pK ?_; refine pK ?_; refine pK ?_; refine pK ?_; refine pT (.bool false) ?_; refine pT (.bool false) ?_; refine pl_nil ?_; refine qw_then ?_; refine cC1 4 (fun L => ?_)
    refine cw_ret ?_
    refine qw_ret [.bool false] rfl ⟨(by kernel_rfl), trivial⟩ ?_
    exact ⟨congrArg (fun b => Ending.returned (Value.bool b)) (show Prod.sameP id ver ar ps id2 ver2 ar2 qs = false by unfold Prod.sameP; simp [hb11, hc9, hc10]).symm, hE⟩
  ·
   refine pU (.bool false) (ev_neq (show _ = Result.ok (Next.value (Value.bool ((ver : Int) == (ver2 : Int)))) _ from by kernel_rfl) (hc10)) ?_
   refine pT (.bool false) ?_; refine pT (.bool false) ?_; refine pK ?_; refine pK ?_; refine pK ?_; refine pK ?_; refine pK ?_; refine pT (.bool false) ?_; refine pT (.bool false) ?_; refine pK ?_; refine pK ?_; refine pK ?_; refine pK ?_; refine pK ?_; refine pK ?_; refine pT (.bool false) ?_; refine pT (.bool false) ?_; refine pl_nil ?_; refine qw_then ?_; refine cC1 4 (fun L => ?_)
   refine cw_ret ?_
   refine qw_ret [.bool false] rfl ⟨(by kernel_rfl), trivial⟩ ?_
   exact ⟨congrArg (fun b => Ending.returned (Value.bool b)) (show Prod.sameP id ver ar ps id2 ver2 ar2 qs = false by unfold Prod.sameP; simp [hc9, hc10]).symm, hE⟩
 ·
  refine pU (.bool false) (ev_neq (show _ = Result.ok (Next.value (Value.bool ((id : Int) == (id2 : Int)))) _ from by kernel_rfl) (hc9)) ?_
  refine pT (.bool false) ?_; refine pK ?_; refine pK ?_; refine pK ?_; refine pK ?_; refine pK ?_; refine pT (.bool false) ?_; refine pT (.bool false) ?_; refine pK ?_; refine pK ?_; refine pK ?_; refine pK ?_; refine pK ?_; refine pT (.bool false) ?_; refine pT (.bool false) ?_; refine pK ?_; refine pK ?_; refine pK ?_; refine pK ?_; refine pK ?_; refine pK ?_; refine pT (.bool false) ?_; refine pT (.bool false) ?_; refine pl_nil ?_; refine qw_then ?_; refine cC1 4 (fun L => ?_)
  refine cw_ret ?_
  refine qw_ret [.bool false] rfl ⟨(by kernel_rfl), trivial⟩ ?_
  exact ⟨congrArg (fun b => Ending.returned (Value.bool b)) (show Prod.sameP id ver ar ps id2 ver2 ar2 qs = false by unfold Prod.sameP; simp [hc9]).symm, hE⟩

end Go.Proofs.YtajdohcgjgknmaaDoor

/- Contracts of package product: given. -/
namespace Go.Proofs.YtajdohcgjgknmaaDoor
open Go.RowKit

theorem cells_le9 (l : List Int) : (Globe.cellsTo l 24).length ≤ 1152 := by
 rw [Globe.count_eq]
 refine T List.countP_le_length (Nat.le_of_eq ?_)
 decide +kernel
/-- What a product gives: cells, with their pieces. -/
def giveG (rs : List RawPc) (ps : List Prod.Pc) : List ((Nat × Nat) × RawPc) := (rs.zip ps).flatMap fun q => (Globe.cellsTo q.2.rw 24).map fun c => (c, q.1)
def encsG (rs : List RawPc) (ps : List Prod.Pc) (k : Nat) : List Value := match (giveG rs ps)[k]? with
 | some (c, r) => [.agg #[.int .i64 c.1, .int .i64 c.2], r.val]
 | none => [.bool false, .bool false]
theorem encsG_len (rs : List RawPc) (ps : List Prod.Pc) (k : Nat) : (encsG rs ps k).length = 2 := by unfold encsG; split <;> rfl
theorem yield_at {F : Fence} {m l k : Nat} {W : World} {rs : List RawPc} {ps : List Prod.Pc} {c : Nat × Nat} {r : RawPc} {v : Value} {Q : Ending → World → Prop} (h : YieldAt F m Tryd.prog l (encsG rs ps k).toArray W Q) (hG : (giveG rs ps)[k]? = some (c, r)) (hv : r.val = v) :
  YieldAt F m Tryd.prog l #[.agg #[.int .i64 c.1, .int .i64 c.2], v] W Q := by
 unfold encsG at h; rw [hG] at h; subst hv; exact h
theorem giveG_take {rs : List RawPc} {ps : List Prod.Pc} {i : Nat} {r : RawPc} {p : Prod.Pc} (hr : rs[i]? = some r) (hp : ps[i]? = some p) : giveG (rs.take (i + 1)) (ps.take (i + 1)) = giveG (rs.take i) (ps.take i) ++ (Globe.cellsTo p.rw 24).map fun c => (c, r) := by
 have h1 : (rs.take i).length = (ps.take i).length := by
  have := (List.getElem?_eq_some_iff.1 hr).1; have := (List.getElem?_eq_some_iff.1 hp).1
  rw [List.length_take, List.length_take]; omega
 unfold giveG
 rw [List.take_add_one, List.take_add_one, hr, hp, List.zip_append h1, List.flatMap_append]
 simp
theorem giveG_succ {rs : List RawPc} {ps : List Prod.Pc} {i : Nat} {r : RawPc} {p : Prod.Pc} (hr : rs[i]? = some r) (hp : ps[i]? = some p) : (giveG (rs.take (i + 1)) (ps.take (i + 1))).length = (giveG (rs.take i) (ps.take i)).length + (Globe.cellsTo p.rw 24).length := by
 rw [giveG_take hr hp, List.length_append, List.length_map]
theorem giveG_pre (rs : List RawPc) (ps : List Prod.Pc) (i : Nat) : giveG (rs.take i) (ps.take i) <+: giveG rs ps := by
 unfold giveG
 rw [show (rs.take i).zip (ps.take i) = (rs.zip ps).take i by simp [List.zip, List.take_zipWith]]
 refine ⟨((rs.zip ps).drop i).flatMap fun q => (Globe.cellsTo q.2.rw 24).map fun c => (c, q.1), ?_⟩
 rw [← List.flatMap_append, List.take_append_drop]
theorem giveG_le {rs : List RawPc} {ps : List Prod.Pc} {i : Nat} : (giveG (rs.take i) (ps.take i)).length ≤ (giveG rs ps).length := (giveG_pre rs ps i).length_le
theorem giveG_at {rs : List RawPc} {ps : List Prod.Pc} {i j : Nat} {r : RawPc} {p : Prod.Pc} {c : Nat × Nat} (hr : rs[i]? = some r) (hp : ps[i]? = some p) (hc : (Globe.cellsTo p.rw 24)[j]? = some c) : (giveG rs ps)[(giveG (rs.take i) (ps.take i)).length + j]? = some (c, r) := by
 obtain ⟨t, ht⟩ := giveG_pre rs ps (i + 1)
 have hj := (List.getElem?_eq_some_iff.1 hc).1
 rw [← ht, giveG_take hr hp, List.append_assoc, List.getElem?_append_right (by omega), show (giveG (rs.take i) (ps.take i)).length + j - (giveG (rs.take i) (ps.take i)).length = j by omega, List.getElem?_append_left (by rw [List.length_map]; exact hj), List.getElem?_map, hc]
 rfl
theorem KeptX.va {X : Nat → Prop} {A B : World} (h : KeptX X A B) {b o : Nat} {l : List Int} (hx : ¬ X b) (hv : VA A b o l) : VA B b o l := ⟨fun i hi => h.cell hx (hv.1 i hi), hv.2⟩
theorem Tab.kept {X : Nat → Prop} {A B : World} (h : Tab A) (hx : ¬ X 1) (hk : KeptX X A B) : Tab B := ⟨Nat.lt_of_lt_of_le h.1 hk.size, fun j hj => hk.cell hx (h.2 j hj)⟩
theorem CellsAt.parts {w : World} {a : Option Addr} {n : Nat} {cs : List (Nat × Nat)} (h : CellsAt w a n cs) (hn : 0 < n) : ∃ b, a = some ⟨b, 0, none⟩ ∧ ∀ (i : Nat) (p : Nat × Nat), cs[i]? = some p → w.cell? ⟨b, i * 2, none⟩ = some (.int .i64 p.1) ∧ w.cell? ⟨b, i * 2 + 1, none⟩ = some (.int .i64 p.2) := h.2.resolve_left (by omega)
set_option maxHeartbeats 1000000 in
theorem Cells_w {w0 : World} {b o : Nat} (c : Nat) {l : List Int} (w : World) (h : VA w0 b o l) (hE : Ext w0 w) (hT : Tab w) :
  Calls Tryd.prog 13 #[.agg #[.slice (some ⟨b, o, none⟩) 24 c]] w fun e w' => ∃ a k, e = .returned (.slice a (Globe.cellsTo l 24).length k) ∧ CellsAt w' a (Globe.cellsTo l 24).length (Globe.cellsTo l 24) ∧ (∀ ad, a = some ad → w.heap.size ≤ ad.block) ∧ Ext w w' := by
 replace h := h.ext hE; clear hE
 have HT := Lib.hid hT; clear hT
 go_enter Tryd.func13, Tryd.ntmps13
 go_wp2_with (first | (go_at_call 31; refine (Valid_e _ _ h.aa (by (repeat' (first | (with_reducible assumption) | (with_reducible exact Ext.refl _) | (with_reducible refine Ext.alloc ?_ _) | (with_reducible refine Ext.drew ?_) | (with_reducible refine Ext.drewN ?_ _) | (with_reducible refine Ext.setCell ?_ ?_ _) | (with_reducible refine Ext.trans ?_ (by assumption)) | go_size)))).mono ?_; rintro e w1 ⟨rfl, hb⟩; have hc := hb.cellE; have hf := hb.frozenE; have hz := hb.size; have ha := alloc_keeps w1; (try simp only [World.size_alloc] at hc hf hz); (try simp only [World.size_setCell] at hc hf hz); (try simp only [World.size_drew] at hc hf hz)) | (go_at_call 41; refine (cells_c _ _ _ _).mono ?_; rintro e w' ⟨rfl, rfl⟩) | (go_at_call 40; refine (Collect_cells _ _ _ c l _ (by simp [go_sem]; done) (h.ext (by (repeat' (first | (with_reducible assumption) | (with_reducible exact Ext.refl _) | (with_reducible refine Ext.alloc ?_ _) | (with_reducible refine Ext.drew ?_) | (with_reducible refine Ext.drewN ?_ _) | (with_reducible refine Ext.setCell ?_ ?_ _) | (with_reducible refine Ext.trans ?_ (by assumption)) | go_size)))) (HT.out.ext (by (repeat' (first | (with_reducible assumption) | (with_reducible exact Ext.refl _) | (with_reducible refine Ext.alloc ?_ _) | (with_reducible refine Ext.drew ?_) | (with_reducible refine Ext.drewN ?_ _) | (with_reducible refine Ext.setCell ?_ ?_ _) | (with_reducible refine Ext.trans ?_ (by assumption)) | go_size))))).mono ?_; rintro e w2 ⟨v, rfl, hrow, hb2⟩))
 go_ret
 obtain ⟨a, k, rfl, hc2⟩ := CellsAt.own rfl hrow
 refine ⟨a, k, rfl, hc2, fun ad e => ?_, by (repeat' (first | (with_reducible assumption) | (with_reducible exact Ext.refl _) | (with_reducible refine Ext.alloc ?_ _) | (with_reducible refine Ext.drew ?_) | (with_reducible refine Ext.drewN ?_ _) | (with_reducible refine Ext.setCell ?_ ?_ _) | (with_reducible refine Ext.trans ?_ (by assumption)) | go_size))⟩
 have h1 := (hrow.lt ad.block (by rw [e]; rfl)).1
 have h2 : w.heap.size ≤ w1.heap.size := Ext.size (show Ext w w1 by (repeat' (first | (with_reducible assumption) | (with_reducible exact Ext.refl _) | (with_reducible refine Ext.alloc ?_ _) | (with_reducible refine Ext.drew ?_) | (with_reducible refine Ext.drewN ?_ _) | (with_reducible refine Ext.setCell ?_ ?_ _) | (with_reducible refine Ext.trans ?_ (by assumption)) | go_size)))
 simp at h1; omega
set_option maxRecDepth 1000000 in
set_option maxHeartbeats 4000000 in
theorem given_c {id ver : Int} {a1 a : Option Addr} {n1 c1 n c : Nat} (w : World) : Calls Tryd.prog 46 #[.agg #[.int .i64 id, .int .i64 ver, .slice a1 n1 c1, .slice a n c]] w fun e w' => ∃ B, e = .returned (.func (.func 70) #[] #[.pointer (some ⟨B, 0, none⟩)]) ∧ w.heap.size ≤ B ∧ w'.cell? ⟨B, 3, none⟩ = some (.slice a n c) ∧ Ext w w' := by
 refine calls_cw 4 [(0, .agg #[.int .i64 id, .int .i64 ver, .slice a1 n1 c1, .slice a n c])] Tryd.func46 rfl Tryd.ntmps46 (by kernel_rfl) (by kernel_rfl) (fun L => ?_)
 have hE : Ext w w := Ext.refl w
 refine cw_seq ?_; refine cw_plain ?_
 refine pS (sn_new (us := #[.int .i64 id, .int .i64 ver, .slice a1 n1 c1, .slice a n c]) (t := 31) (by kernel_rfl) ?_)
 intro O1 X2 hzO1 hyO1 hb hbx; have ⟨bO1_0, bO1_1, bO1_2, bO1_3⟩ := bx4 hbx; clear hbx
 replace hE := hE.trans hb; have hs3 := hb.size; clear hb; have lt4 := bO1_0.lt; refine pT (Value.nilFunc) ?_; refine pl_nil ?_; refine qw_then ?_; refine cw_seq ?_; have hX5 : Ext X2 X2 := Ext.refl _; refine cw_plain ?_; refine pT (.func (.func 70) #[] #[.pointer (some ⟨O1, 0, none⟩)]) ?_; refine pT (.func (.func 70) #[] #[.pointer (some ⟨O1, 0, none⟩)]) ?_; refine pl_nil ?_; refine qw_then ?_
 refine cw_ret ?_
 refine qw_ret [.func (.func 70) #[] #[.pointer (some ⟨O1, 0, none⟩)]] rfl ⟨(by kernel_rfl), trivial⟩ ?_
 exact ⟨O1, rfl, (Nat.le_of_eq hzO1), bO1_3.1, hE⟩
set_option maxRecDepth 1000000 in
set_option maxHeartbeats 4000000 in
theorem given_seq {a : Option Addr} {n c B : Nat} {rs : List RawPc} {ps : List Prod.Pc} {X : Nat → Prop} {w0 w1 : World} (hR : RawsAt w0 a n rs) (hrd : Reads w0 rs ps) (hok : ∀ p ∈ ps, Globe.validL p.rw = true) (hT : Tab w0) (e0 : Ext w0 w1) (cB : w1.cell? ⟨B, 3, none⟩ = some (.slice a n c)) (hXl : ∀ k, X k → w0.heap.size ≤ k) (hX2 : ∀ k, X k → k < w1.heap.size) :
  SeqN Tryd.prog 70 #[.pointer (some ⟨B, 0, none⟩)] (giveG rs ps).length (encsG rs ps) (fun _ _ => True) X w1 := by
 intro l J Jx w hW hJst hJxst hY hJ0 n9
 replace cB := hW.cell cB
 obtain ⟨hl, hm, -⟩ := id hR
 have hW0 := hW.size
 have hlp : ps.length = rs.length := hrd.len.symm
 refine icalls 29 [(1, .pointer (some ⟨B, 0, none⟩)), (0, .func (.yield l) #[] #[])] Tryd.func70 rfl Tryd.ntmps70 (by kernel_rfl) (by kernel_rfl) (fun L mm => ?_)
 have hE : Ext w w := Ext.refl w
 refine icw_seq ?_
 refine icw_plain ?_
 refine ipl_take (.pointer (some ⟨B, 3, none⟩)) rfl (by kernel_rfl) (by kernel_rfl) (by kernel_rfl) (by kernel_rfl) ?_
 refine ipl_take (.slice a n c) rfl (by kernel_rfl) (by kernel_rfl) (by kernel_rfl) (ex_load rfl (by kernel_rfl) (ld28 (cB))) ?_
 refine ipl_take (.int .i64 (((n : Nat) : Int) : Int)) rfl (by kernel_rfl) (by kernel_rfl) (by kernel_rfl) (by kernel_rfl) ?_
 refine ipl_take (.int .i64 0) rfl (by kernel_rfl) (by kernel_rfl) (by kernel_rfl) (by kernel_rfl) ?_
 refine ipl_nil ?_
 refine iqw_then ?_
 refine icw_block ?_
 have hJs1 := hJst _ _ _ hJ0 (Ext.refl _)
 have hkp2 : KeptX X w0 w := KeptX.of_mv (n₀ := 0) (Mv.of_ext (e0.trans (hW.trans hE)))
 refine icw_loop [0, 8, 9, 10] (fun ws' wr m => ∃ i : Nat, ws' = [(0, .func (.yield l) #[] #[]), (8, .slice a n c), (9, .int .i64 (((n : Nat) : Int) : Int)), (10, .int .i64 (((i : Nat) : Int) : Int))] ∧ m = n - i ∧ w.heap.size ≤ wr.heap.size ∧ KeptX X w0 wr ∧ J (giveG (rs.take i) (ps.take i)).length wr ∧ i ≤ n) (ws0 := [(0, .func (.yield l) #[] #[]), (8, .slice a n c), (9, .int .i64 (((n : Nat) : Int) : Int)), (10, .int .i64 0)]) (by kernel_rfl) _ ⟨0, rfl, rfl, Nat.le_refl _, hkp2, hJs1, by omega⟩ ?_
 clear cB
 rintro m5 L ws w4 ⟨i, rfl, rfl, hs3, hkp9, hJ9, hi⟩
 have hX6 : Ext w4 w4 := Ext.refl _
 by_cases hlt : i < n
 ·
  obtain ⟨b, o, rfl, hbl, hx0⟩ := hR.parts (by omega)
  obtain ⟨r0, r1, r2, r3⟩ := hx0 i hlt
  have hnX : ¬ X b := fun hx => absurd hbl (Nat.not_lt_of_le (hXl _ hx))
  obtain ⟨p, hp, -, -, -, hAA⟩ := hrd.at (rawN_at (rs := rs) (i := i) (by omega))
  obtain ⟨ba, oa, hea, hen, hva⟩ := va_of hAA (hok p (List.mem_of_getElem? hp))
  rw [hea, hen] at r3
  have hbal := hva.lt
  have hnXa : ¬ X ba := fun hx => absurd hbal (Nat.not_lt_of_le (hXl _ hx))
  have hval : (rawN rs i).val = .agg #[.int .i64 (rawN rs i).im, .int .i64 (rawN rs i).t, .bool (rawN rs i).cl, .slice (some ⟨ba, oa, none⟩) 24 (rawN rs i).c] := by unfold RawPc.val; rw [hea, hen]
  have hgs := giveG_succ (rs := rs) (ps := ps) (i := i) (rawN_at (by omega)) hp
  have hgl := giveG_le (rs := rs) (ps := ps) (i := i + 1)
  have hcl9 := cells_le9 p.rw
  replace hva := hkp9.va hnXa hva; replace r0 := hkp9.cell hnX r0; replace r1 := hkp9.cell hnX r1; replace r2 := hkp9.cell hnX r2; replace r3 := hkp9.cell hnX r3
  refine icw_seq ?_
  refine icw_plain ?_
  refine ipl_take (.bool true) rfl (by kernel_rfl) (by kernel_rfl) (by kernel_rfl) (ev_dec (show _ = Result.ok (Next.value (Value.bool (decide ((((i : Nat) : Int) : Int) < (((n : Nat) : Int) : Int))))) _ from by kernel_rfl) (by omega)) ?_
  refine ipl_nil ?_
  refine iqw_then ?_
  refine icw_seq ?_
  refine icw_t (by kernel_rfl) ?_
  refine icw_skip ?_
  refine iqw_then ?_
  refine icw_seq ?_
  refine icw_block ?_
  refine icw_seq ?_
  refine icw_plain ?_
  refine ipl_take (.pointer (some ⟨b, o + i * 4, none⟩)) rfl (by kernel_rfl) (by kernel_rfl) (by kernel_rfl) (ex_index (p := .slice (some ⟨b, o, none⟩) n c) (i := .int .i64 ((i : Nat) : Int)) rfl (by kernel_rfl) (by kernel_rfl) (ix28 (k := i) (by omega))) ?_
  refine ipl_take (.agg #[.int .i64 ((rawN rs i).im : Int), .int .i64 ((rawN rs i).t : Int), .bool ((rawN rs i).cl), .slice (some ⟨ba, oa, none⟩) 24 ((rawN rs i).c)]) rfl (by kernel_rfl) (by kernel_rfl) (by kernel_rfl) (ex_load rfl (by kernel_rfl) (ld41 (r0) (r1) (r2) (r3))) ?_
  refine ipl_step rfl (by kernel_rfl) (by kernel_rfl) (by kernel_rfl) (sn_new (us := #[.int .i64 0, .int .i64 0, .bool false, .slice none 0 0]) (t := 41) (by kernel_rfl) ?_)
  intro O7 X8 hzO7 hyO7 hb hbx; have ⟨bO7_0, bO7_1, bO7_2, bO7_3⟩ := bx4 hbx; clear hbx
  replace hX6 := hX6.trans hb; replace hkp9 := hkp9.trans (KeptX.of_mv (n₀ := 0) (Mv.of_ext hb)); replace r0 := hb.cell r0; replace r1 := hb.cell r1; replace r2 := hb.cell r2; replace r3 := hb.cell r3; replace hva := hva.ext hb; have hs9 := hb.size; clear hb; have lt10 := bO7_0.lt
  refine ipl_put rfl (by kernel_rfl) (by kernel_rfl) (sn_setK4 (O := O7) (j := 0) (v0 := .int .i64 ((rawN rs i).im : Int)) (v1 := .int .i64 ((rawN rs i).t : Int)) (v2 := .bool ((rawN rs i).cl)) (v3 := .slice (some ⟨ba, oa, none⟩) 24 ((rawN rs i).c)) (ex_store (p := .pointer (some ⟨O7, 0, none⟩)) (v := .agg #[.int .i64 ((rawN rs i).im : Int), .int .i64 ((rawN rs i).t : Int), .bool ((rawN rs i).cl), .slice (some ⟨ba, oa, none⟩) 24 ((rawN rs i).c)]) rfl (by kernel_rfl) (by kernel_rfl) (st41 bO7_0.1 bO7_0.2 bO7_1.1 bO7_1.2 bO7_2.1 bO7_2.2 bO7_3.1 bO7_3.2)) bO7_0 bO7_1 bO7_2 bO7_3 ?_)
  intro X11 ho hv0 hv1 hv2 hv3 hk; replace hX6 := ho.ext hX6 (Nat.le_of_eq hzO7); replace hkp9 := hkp9.turn ho (T (T e0.size hW0) (T hs3 (Nat.le_of_eq hzO7))); replace r0 := ho.cell (Nat.ne_of_gt (Nat.lt_of_lt_of_le (Nat.lt_of_lt_of_le hbl (T e0.size hW0)) (T hs3 (Nat.le_of_eq hzO7)))) r0; replace r1 := ho.cell (Nat.ne_of_gt (Nat.lt_of_lt_of_le (Nat.lt_of_lt_of_le hbl (T e0.size hW0)) (T hs3 (Nat.le_of_eq hzO7)))) r1; replace r2 := ho.cell (Nat.ne_of_gt (Nat.lt_of_lt_of_le (Nat.lt_of_lt_of_le hbl (T e0.size hW0)) (T hs3 (Nat.le_of_eq hzO7)))) r2; replace r3 := ho.cell (Nat.ne_of_gt (Nat.lt_of_lt_of_le (Nat.lt_of_lt_of_le hbl (T e0.size hW0)) (T hs3 (Nat.le_of_eq hzO7)))) r3; replace hva := ho.va (Nat.ne_of_gt (Nat.lt_of_lt_of_le (Nat.lt_of_lt_of_le hbal (T e0.size hW0)) (T hs3 (Nat.le_of_eq hzO7)))) hva; have hs12 : X8.heap.size ≤ X11.heap.size := Nat.le_of_eq ho.size.symm; clear ho hk bO7_0 bO7_1 bO7_2 bO7_3; have bO7_0 := hv0; clear hv0; have bO7_1 := hv1; clear hv1; have bO7_2 := hv2; clear hv2; have bO7_3 := hv3; clear hv3
  refine ipl_nil ?_
  refine iqw_then ?_
  refine icw_seq ?_
  refine icw_plain ?_
  refine ipl_take (.pointer (some ⟨O7, 3, none⟩)) rfl (by kernel_rfl) (by kernel_rfl) (by kernel_rfl) (by kernel_rfl) ?_
  refine ipl_take (.agg #[.slice (some ⟨ba, oa, none⟩) 24 ((rawN rs i).c)]) rfl (by kernel_rfl) (by kernel_rfl) (by kernel_rfl) (ex_load rfl (by kernel_rfl) (ld26 (bO7_3.1))) ?_
  refine ipl_step rfl (by kernel_rfl) (by kernel_rfl) (by kernel_rfl) (sn_call (f := 13) (args := #[.agg #[.slice (some ⟨ba, oa, none⟩) 24 ((rawN rs i).c)]]) (by kernel_rfl) ((Cells_w _ _ hva (Ext.refl _) (Tab.kept (X := X) hT (fun hx => absurd hT.1 (Nat.not_lt_of_le (hXl _ hx))) hkp9)).mono ?_))
  rintro e w17 ⟨a13, k14, rfl, hcs15, hfr16, hb⟩
  replace hX6 := hX6.trans hb; replace hkp9 := hkp9.trans (KeptX.of_mv (n₀ := 0) (Mv.of_ext hb)); replace r0 := hb.cell r0; replace r1 := hb.cell r1; replace r2 := hb.cell r2; replace r3 := hb.cell r3; replace hva := hva.ext hb; replace bO7_0 := BoxAt.ext hb bO7_0; replace bO7_1 := BoxAt.ext hb bO7_1; replace bO7_2 := BoxAt.ext hb bO7_2; replace bO7_3 := BoxAt.ext hb bO7_3; have hs18 := hb.size; clear hb; have hX19 : Ext w17 w17 := Ext.refl _
  refine ⟨_, rfl, ?_⟩
  refine ipl_take (.int .i64 ((((Globe.cellsTo p.rw 24).length : Nat) : Int) : Int)) rfl (by kernel_rfl) (by kernel_rfl) (by kernel_rfl) (by kernel_rfl) ?_
  refine ipl_take (.int .i64 0) rfl (by kernel_rfl) (by kernel_rfl) (by kernel_rfl) (by kernel_rfl) ?_
  refine ipl_nil ?_
  refine iqw_then ?_
  refine icw_block ?_
  have hJs20 := hJst _ _ _ hJ9 hX6
  have hkq21 : KeptX X w17 w17 := KeptX.of_mv (n₀ := 0) (Mv.refl _ _)
  have hcw22 := hcs15.ext (Ext.refl _)
  refine icw_loop [0, 4, 8, 9, 10, 16, 17, 18] (fun ws' wr m => ∃ j : Nat, ws' = [(0, .func (.yield l) #[] #[]), (4, .pointer (some ⟨O7, 0, none⟩)), (8, .slice (some ⟨b, o, none⟩) n c), (9, .int .i64 (((n : Nat) : Int) : Int)), (10, .int .i64 (((i : Nat) : Int) : Int)), (16, .slice a13 ((Globe.cellsTo p.rw 24).length) k14), (17, .int .i64 ((((Globe.cellsTo p.rw 24).length : Nat) : Int) : Int)), (18, .int .i64 (((j : Nat) : Int) : Int))] ∧ m = (Globe.cellsTo p.rw 24).length - j ∧ w17.heap.size ≤ wr.heap.size ∧ BoxAt wr O7 0 (.int .i64 ((rawN rs i).im : Int)) ∧ BoxAt wr O7 1 (.int .i64 ((rawN rs i).t : Int)) ∧ BoxAt wr O7 2 (.bool ((rawN rs i).cl)) ∧ BoxAt wr O7 3 (.slice (some ⟨ba, oa, none⟩) 24 ((rawN rs i).c)) ∧ KeptX X w0 wr ∧ KeptX X w17 wr ∧ J ((giveG (rs.take i) (ps.take i)).length + j) wr ∧ j ≤ (Globe.cellsTo p.rw 24).length) (ws0 := [(0, .func (.yield l) #[] #[]), (4, .pointer (some ⟨O7, 0, none⟩)), (8, .slice (some ⟨b, o, none⟩) n c), (9, .int .i64 (((n : Nat) : Int) : Int)), (10, .int .i64 (((i : Nat) : Int) : Int)), (16, .slice a13 ((Globe.cellsTo p.rw 24).length) k14), (17, .int .i64 ((((Globe.cellsTo p.rw 24).length : Nat) : Int) : Int)), (18, .int .i64 0)]) (by kernel_rfl) _ ⟨0, rfl, rfl, Nat.le_refl _, bO7_0, bO7_1, bO7_2, bO7_3, hkp9, hkq21, hJs20, Nat.zero_le _⟩ ?_
  clear hkp9 r0 r1 r2 r3 hva bO7_0 bO7_1 bO7_2 bO7_3
  rintro m25 L ws w24 ⟨j, rfl, rfl, hs23, bO7_0, bO7_1, bO7_2, bO7_3, hkp9, hkq9, hJ9, hj⟩
  have hX26 : Ext w24 w24 := Ext.refl _
  by_cases hlt : j < (Globe.cellsTo p.rw 24).length
  ·
   obtain ⟨cc, hcc⟩ : ∃ cc, (Globe.cellsTo p.rw 24)[j]? = some cc := ⟨_, List.getElem?_eq_getElem hlt⟩
   obtain ⟨bc, rfl, hce⟩ := CellsAt.parts hcw22 (by omega)
   obtain ⟨d0, d1⟩ := hce j cc hcc
   have hnXc : ¬ X bc := fun hx => absurd (hX2 _ hx) (Nat.not_lt_of_le (T (T hW0 (T hs3 (T hs9 hs12))) (hfr16 _ rfl)))
   replace d0 := hkq9.cell hnXc d0; replace d1 := hkq9.cell hnXc d1
   have hG := giveG_at (rs := rs) (ps := ps) (i := i) (j := j) (rawN_at (by omega)) hp hcc
   have hbcl : bc < w24.heap.size := World.block_lt_of_cell? _ _ d0
   refine icw_seq ?_
   refine icw_plain ?_
   refine ipl_take (.bool true) rfl (by kernel_rfl) (by kernel_rfl) (by kernel_rfl) (ev_dec (show _ = Result.ok (Next.value (Value.bool (decide ((((j : Nat) : Int) : Int) < ((((Globe.cellsTo p.rw 24).length : Nat) : Int) : Int))))) _ from by kernel_rfl) (by omega)) ?_
   refine ipl_nil ?_
   refine iqw_then ?_
   refine icw_seq ?_
   refine icw_t (by kernel_rfl) ?_
   refine icw_skip ?_
   refine iqw_then ?_
   refine icw_seq ?_
   refine icw_block ?_
   refine icw_seq ?_
   refine icw_plain ?_
   refine ipl_take (.pointer (some ⟨bc, j * 2, none⟩)) rfl (by kernel_rfl) (by kernel_rfl) (by kernel_rfl) (ex_index (p := .slice (some ⟨bc, 0, none⟩) ((Globe.cellsTo p.rw 24).length) k14) (i := .int .i64 ((j : Nat) : Int)) rfl (by kernel_rfl) (by kernel_rfl) (ix37z (k := j) (by omega))) ?_
   refine ipl_take (.agg #[.int .i64 (((cc.1 : Nat) : Int) : Int), .int .i64 (((cc.2 : Nat) : Int) : Int)]) rfl (by kernel_rfl) (by kernel_rfl) (by kernel_rfl) (ex_load rfl (by kernel_rfl) (ld43 (d0) (d1))) ?_
   refine ipl_step rfl (by kernel_rfl) (by kernel_rfl) (by kernel_rfl) (sn_new (us := #[.int .i64 0, .int .i64 0]) (t := 43) (by kernel_rfl) ?_)
   intro O27 X28 hzO27 hyO27 hb hbx; have ⟨bO27_0, bO27_1⟩ := bx2 hbx; clear hbx
   replace hX26 := hX26.trans hb; replace bO7_0 := BoxAt.ext hb bO7_0; replace bO7_1 := BoxAt.ext hb bO7_1; replace bO7_2 := BoxAt.ext hb bO7_2; replace bO7_3 := BoxAt.ext hb bO7_3; replace hkp9 := hkp9.trans (KeptX.of_mv (n₀ := 0) (Mv.of_ext hb)); replace hkq9 := hkq9.trans (KeptX.of_mv (n₀ := 0) (Mv.of_ext hb)); replace d0 := hb.cell d0; replace d1 := hb.cell d1; have hs29 := hb.size; clear hb; have lt30 := bO27_0.lt
   refine ipl_put rfl (by kernel_rfl) (by kernel_rfl) (sn_set2 (O := O27) (j := 0) (v := .int .i64 (((cc.1 : Nat) : Int) : Int)) (v' := .int .i64 (((cc.2 : Nat) : Int) : Int)) (ex_store (p := .pointer (some ⟨O27, 0, none⟩)) (v := .agg #[.int .i64 (((cc.1 : Nat) : Int) : Int), .int .i64 (((cc.2 : Nat) : Int) : Int)]) rfl (by kernel_rfl) (by kernel_rfl) (st43 bO27_0.1 bO27_0.2 bO27_1.1 bO27_1.2)) bO27_0 bO27_1 ?_)
   intro X31 ho hv0 hv1 hk; replace hX26 := ho.ext hX26 (Nat.le_of_eq hzO27)
   have q9 := fun (j : Nat) (v : Value) (h : BoxAt _ O7 j v) => ho.box (Nat.ne_of_gt (Nat.lt_of_lt_of_le lt10 (T (T hs12 (T hs18 hs23)) (Nat.le_of_eq hzO27)))) h
   replace bO7_0 := q9 _ _ bO7_0; replace bO7_1 := q9 _ _ bO7_1; replace bO7_2 := q9 _ _ bO7_2; replace bO7_3 := q9 _ _ bO7_3; clear q9; replace hkp9 := hkp9.turn ho (T (T e0.size hW0) (T (T hs3 (T hs9 (T hs12 (T hs18 hs23)))) (Nat.le_of_eq hzO27))); replace hkq9 := hkq9.turn ho (T hs23 (Nat.le_of_eq hzO27)); replace d0 := ho.cell (Nat.ne_of_gt (Nat.lt_of_lt_of_le hbcl (Nat.le_of_eq hzO27))) d0; replace d1 := ho.cell (Nat.ne_of_gt (Nat.lt_of_lt_of_le hbcl (Nat.le_of_eq hzO27))) d1; have hs32 : X28.heap.size ≤ X31.heap.size := Nat.le_of_eq ho.size.symm; clear ho hk bO27_0 bO27_1; have bO27_0 := hv0; clear hv0; have bO27_1 := hv1; clear hv1
   refine ipl_nil ?_
   refine iqw_then ?_
   refine icw_seq ?_
   refine icw_plain ?_
   refine ipl_take (.func (.yield l) #[] #[]) rfl (by kernel_rfl) (by kernel_rfl) (by kernel_rfl) (by kernel_rfl) ?_
   refine ipl_take (.agg #[.int .i64 (((cc.1 : Nat) : Int) : Int), .int .i64 (((cc.2 : Nat) : Int) : Int)]) rfl (by kernel_rfl) (by kernel_rfl) (by kernel_rfl) (ex_load rfl (by kernel_rfl) (ld43 (bO27_0.1) (bO27_1.1))) ?_
   refine ipl_take (.agg #[.int .i64 ((rawN rs i).im : Int), .int .i64 ((rawN rs i).t : Int), .bool ((rawN rs i).cl), .slice (some ⟨ba, oa, none⟩) 24 ((rawN rs i).c)]) rfl (by kernel_rfl) (by kernel_rfl) (by kernel_rfl) (ex_load rfl (by kernel_rfl) (ld41 (bO7_0.1) (bO7_1.1) (bO7_2.1) (bO7_3.1))) ?_
   refine ipl_yield rfl (by kernel_rfl) (by kernel_rfl) (by kernel_rfl) (sy_yield (args := #[.agg #[.int .i64 (((cc.1 : Nat) : Int) : Int), .int .i64 (((cc.2 : Nat) : Int) : Int)], .agg #[.int .i64 ((rawN rs i).im : Int), .int .i64 ((rawN rs i).t : Int), .bool ((rawN rs i).cl), .slice (some ⟨ba, oa, none⟩) 24 ((rawN rs i).c)]]) rfl (by kernel_rfl) (by kernel_rfl) (yield_mono (yield_at (hY ((giveG (rs.take i) (ps.take i)).length + j) _ _ (by omega) (hJst _ _ _ hJ9 hX26) trivial) hG hval) ?_))
   rintro e w33 (⟨rfl, hJ34, hk35⟩ | ⟨rfl, hJ34, hk35⟩)
   ·
    have q9 := fun (j : Nat) (v : Value) (h : BoxAt _ O7 j v) => hk35.box (fun hx => absurd (hX2 _ hx) (Nat.not_lt_of_le (T hW0 (T hs3 (Nat.le_of_eq hzO7))))) h
    replace bO7_0 := q9 _ _ bO7_0; replace bO7_1 := q9 _ _ bO7_1; replace bO7_2 := q9 _ _ bO7_2; replace bO7_3 := q9 _ _ bO7_3; clear q9; replace hkp9 := hkp9.trans hk35; replace hkq9 := hkq9.trans hk35; replace d0 := hk35.cell hnXc d0; replace d1 := hk35.cell hnXc d1
    have q9 := fun (j : Nat) (v : Value) (h : BoxAt _ O27 j v) => hk35.box (fun hx => absurd (hX2 _ hx) (Nat.not_lt_of_le (T hW0 (T (T hs3 (T hs9 (T hs12 (T hs18 hs23)))) (Nat.le_of_eq hzO27))))) h
    replace bO27_0 := q9 _ _ bO27_0; replace bO27_1 := q9 _ _ bO27_1; clear q9; have hs36 := hk35.size; have hX37 : Ext w33 w33 := Ext.refl _
    refine ⟨_, rfl, ?_⟩
    refine ipl_take (.bool false) rfl (by kernel_rfl) (by kernel_rfl) (by kernel_rfl) (by kernel_rfl) ?_
    refine ipl_nil ?_
    refine iqw_then ?_
    refine icw_clean [0, 4, 8, 9, 10, 16, 17, 18, 26] (ws' := [(0, .func (.yield l) #[] #[]), (4, .pointer (some ⟨O7, 0, none⟩)), (8, .slice (some ⟨b, o, none⟩) n c), (9, .int .i64 (((n : Nat) : Int) : Int)), (10, .int .i64 (((i : Nat) : Int) : Int)), (16, .slice (some ⟨bc, 0, none⟩) ((Globe.cellsTo p.rw 24).length) k14), (17, .int .i64 ((((Globe.cellsTo p.rw 24).length : Nat) : Int) : Int)), (18, .int .i64 (((j : Nat) : Int) : Int)), (26, .bool false)]) (by kernel_rfl) (fun L => ?_)
    refine icw_f (by kernel_rfl) ?_
    refine icw_skip ?_
    refine iqw_block ?_
    refine iqw_then ?_
    refine icw_plain ?_
    refine ipl_take (.int .i64 (((j + 1 : Nat) : Int) : Int)) rfl (by kernel_rfl) (by kernel_rfl) (by kernel_rfl) (ev_wrap (by kernel_rfl) (by omega) (by omega)) ?_
    refine ipl_take (.int .i64 (((j + 1 : Nat) : Int) : Int)) rfl (by kernel_rfl) (by kernel_rfl) (by kernel_rfl) (by kernel_rfl) ?_
    refine ipl_nil ?_
    refine iqw_round [0, 4, 8, 9, 10, 16, 17, 18] (ws' := [(0, .func (.yield l) #[] #[]), (4, .pointer (some ⟨O7, 0, none⟩)), (8, .slice (some ⟨b, o, none⟩) n c), (9, .int .i64 (((n : Nat) : Int) : Int)), (10, .int .i64 (((i : Nat) : Int) : Int)), (16, .slice (some ⟨bc, 0, none⟩) ((Globe.cellsTo p.rw 24).length) k14), (17, .int .i64 ((((Globe.cellsTo p.rw 24).length : Nat) : Int) : Int)), (18, .int .i64 (((j + 1 : Nat) : Int) : Int))]) (by kernel_rfl) _ ?_ ⟨(j + 1), rfl, rfl, (T hs23 (T hs29 (T hs32 hs36))), bO7_0, bO7_1, bO7_2, bO7_3, hkp9, hkq9, (hJst _ _ _ hJ34 (Ext.refl _)), by omega⟩
    omega
   ·
    have q9 := fun (j : Nat) (v : Value) (h : BoxAt _ O7 j v) => hk35.box (fun hx => absurd (hX2 _ hx) (Nat.not_lt_of_le (T hW0 (T hs3 (Nat.le_of_eq hzO7))))) h
    replace bO7_0 := q9 _ _ bO7_0; replace bO7_1 := q9 _ _ bO7_1; replace bO7_2 := q9 _ _ bO7_2; replace bO7_3 := q9 _ _ bO7_3; clear q9; replace hkp9 := hkp9.trans hk35; replace hkq9 := hkq9.trans hk35; replace d0 := hk35.cell hnXc d0; replace d1 := hk35.cell hnXc d1
    have q9 := fun (j : Nat) (v : Value) (h : BoxAt _ O27 j v) => hk35.box (fun hx => absurd (hX2 _ hx) (Nat.not_lt_of_le (T hW0 (T (T hs3 (T hs9 (T hs12 (T hs18 hs23)))) (Nat.le_of_eq hzO27))))) h
    replace bO27_0 := q9 _ _ bO27_0; replace bO27_1 := q9 _ _ bO27_1; clear q9; have hs38 := hk35.size; have hX39 : Ext w33 w33 := Ext.refl _
    refine ⟨_, rfl, ?_⟩
    refine ipl_take (.bool true) rfl (by kernel_rfl) (by kernel_rfl) (by kernel_rfl) (by kernel_rfl) ?_
    refine ipl_nil ?_
    refine iqw_then ?_
    refine icw_clean [0, 4, 8, 9, 10, 16, 17, 18, 26] (ws' := [(0, .func (.yield l) #[] #[]), (4, .pointer (some ⟨O7, 0, none⟩)), (8, .slice (some ⟨b, o, none⟩) n c), (9, .int .i64 (((n : Nat) : Int) : Int)), (10, .int .i64 (((i : Nat) : Int) : Int)), (16, .slice (some ⟨bc, 0, none⟩) ((Globe.cellsTo p.rw 24).length) k14), (17, .int .i64 ((((Globe.cellsTo p.rw 24).length : Nat) : Int) : Int)), (18, .int .i64 (((j : Nat) : Int) : Int)), (26, .bool true)]) (by kernel_rfl) (fun L => ?_)
    refine icw_t (by kernel_rfl) ?_
    refine icw_ret ?_
    refine iqw_block_ret ?_
    refine iqw_then_ret ?_
    refine iqw_then_ret ?_
    refine iqw_block_ret ?_
    refine iqw_block_ret ?_
    refine iqw_then_ret ?_
    refine iqw_then_ret ?_
    refine iqw_block_ret ?_
    refine iqw_ret0 [] rfl trivial ?_
    exact ⟨⟨_, rfl⟩, .inr ⟨(giveG (rs.take i) (ps.take i)).length + j, by omega, hJxst _ _ _ hJ34 (Ext.refl _)⟩⟩
  ·
   have hjn : j = (Globe.cellsTo p.rw 24).length := by omega
   have hjl : (giveG (rs.take i) (ps.take i)).length + j = (giveG (rs.take i) (ps.take i)).length + (Globe.cellsTo p.rw 24).length := by rw [hjn]
   refine icw_seq ?_
   refine icw_plain ?_
   refine ipl_take (.bool false) rfl (by kernel_rfl) (by kernel_rfl) (by kernel_rfl) (ev_ndec (show _ = Result.ok (Next.value (Value.bool (decide ((((j : Nat) : Int) : Int) < ((((Globe.cellsTo p.rw 24).length : Nat) : Int) : Int))))) _ from by kernel_rfl) (by omega)) ?_
   refine ipl_nil ?_
   refine iqw_then ?_
   refine icw_seq ?_
   refine icw_f (by kernel_rfl) ?_
   refine icw_exit ?_
   refine iqw_then_exit ?_
   refine iqw_then_exit ?_
   refine iqw_block_out ?_
   refine iqw_block ?_
   refine iqw_then ?_
   refine icw_plain ?_
   refine ipl_take (.int .i64 (((i + 1 : Nat) : Int) : Int)) rfl (by kernel_rfl) (by kernel_rfl) (by kernel_rfl) (ev_wrap (by kernel_rfl) (by omega) (by omega)) ?_
   refine ipl_take (.int .i64 (((i + 1 : Nat) : Int) : Int)) rfl (by kernel_rfl) (by kernel_rfl) (by kernel_rfl) (by kernel_rfl) ?_
   refine ipl_nil ?_
   refine iqw_round [0, 8, 9, 10] (ws' := [(0, .func (.yield l) #[] #[]), (8, .slice (some ⟨b, o, none⟩) n c), (9, .int .i64 (((n : Nat) : Int) : Int)), (10, .int .i64 (((i + 1 : Nat) : Int) : Int))]) (by kernel_rfl) _ ?_ ⟨(i + 1), rfl, rfl, (T hs3 (T hs9 (T hs12 (T hs18 hs23)))), hkp9, (by rw [hgs]; exact hjl ▸ hJst _ _ _ hJ9 (Ext.refl _)), by omega⟩
   omega
 ·
  have hin : i = n := by omega
  refine icw_seq ?_
  refine icw_plain ?_
  refine ipl_take (.bool false) rfl (by kernel_rfl) (by kernel_rfl) (by kernel_rfl) (ev_ndec (show _ = Result.ok (Next.value (Value.bool (decide ((((i : Nat) : Int) : Int) < (((n : Nat) : Int) : Int))))) _ from by kernel_rfl) (by omega)) ?_
  refine ipl_nil ?_
  refine iqw_then ?_
  refine icw_seq ?_
  refine icw_f (by kernel_rfl) ?_
  refine icw_exit ?_
  refine iqw_then_exit ?_
  refine iqw_then_exit ?_
  refine iqw_block_out ?_
  refine iqw_end0 [] rfl trivial ?_
  have hof : (giveG (rs.take i) (ps.take i)).length = (giveG rs ps).length := by rw [hin, List.take_of_length_le (by omega), List.take_of_length_le (by omega)]
  exact ⟨⟨_, rfl⟩, .inl (hof ▸ hJst _ _ _ hJ9 (Ext.refl _))⟩

end Go.Proofs.YtajdohcgjgknmaaDoor

/- Contract of package product: Over. -/
namespace Go.Proofs.YtajdohcgjgknmaaDoor
open Go.RowKit

def okG (ps : List Prod.Pc) (q : (Nat × Nat) × RawPc) : Bool := match ps.find? (fun p => hasB p.rw ((q.1.1 : Nat) : Int) ((q.1.2 : Nat) : Int)) with
 | none => false
 | some x => !Prod.bet q.2.cl q.2.t q.2.im x.cl x.t x.im
def Prod.okY (ps : List Prod.Pc) (y : Prod.Pc) (c : Nat × Nat) : Bool := match ps.find? (fun p => hasB p.rw ((c.1 : Nat) : Int) ((c.2 : Nat) : Int)) with
 | none => false
 | some x => !Prod.better y x
def Prod.overL (ps qs : List Prod.Pc) : Bool := qs.all fun y => (Globe.cellsTo y.rw 24).all (Prod.okY ps y)
def Prod.overB (id ver : Int) (ar : List Int) (ps : List Prod.Pc) (id2 ver2 : Int) (ar2 : List Int) (qs : List Prod.Pc) : Bool :=
 (Prod.validP id ver ar ps && Prod.validP id2 ver2 ar2 qs) && ((decide (id = id2) && decide (ar = ar2)) && (decide (ver2 < ver) && Prod.overL ps qs))
theorem encs_at {rs : List RawPc} {ps : List Prod.Pc} {k : Nat} {c : Nat × Nat} {r : RawPc} (hG : (giveG rs ps)[k]? = some (c, r)) : encsG rs ps k = [.agg #[.int .i64 c.1, .int .i64 c.2], .agg #[.int .i64 r.im, .int .i64 r.t, .bool r.cl, .slice r.a r.n r.c]] := by
 unfold encsG; rw [hG]; rfl
theorem overG_all {w : World} {ps : List Prod.Pc} : ∀ {rs : List RawPc} {qs : List Prod.Pc}, Reads w rs qs → (giveG rs qs).all (okG ps) = Prod.overL ps qs
 | [], [], _ => rfl
 | r :: rs, y :: qs, h => by
  have ih := overG_all (ps := ps) h.2
  obtain ⟨⟨e1, e2, e3, _⟩, _⟩ := h
  unfold giveG at ih ⊢
  rw [List.zip_cons_cons, List.flatMap_cons, List.all_append, ih, List.all_map]
  unfold Prod.overL
  rw [List.all_cons]
  congr 1
  refine congrArg (fun f => List.all _ f) (funext fun c => ?_)
  unfold okG Prod.okY Prod.better
  simp only [Function.comp]
  rw [e1, e2, e3]
theorem overG_bad {ps : List Prod.Pc} {G : List ((Nat × Nat) × RawPc)} {k : Nat} {z : (Nat × Nat) × RawPc} (hG : G[k]? = some z) (h : okG ps z = false) : G.all (okG ps) = false := by
 cases q : G.all (okG ps)
 · rfl
 · have := List.all_eq_true.1 q z (List.mem_of_getElem? hG); rw [h] at this; cases this
set_option maxRecDepth 1000000 in
set_option maxHeartbeats 4000000 in
theorem Over_c {w1 w2 w3 w4 : World} {id ver id2 ver2 : Int} {ar ar2 : List Int} {ps qs : List Prod.Pc} {a1 a b1 b : Option Addr} {n1 n m1 m : Nat} (c1 d1 : Nat) {c d : Nat} (w : World) (hnc : n ≤ c) (hmd : m ≤ d) (hA : AA w1 a1 ar n1 (Globe.validL ar)) (e1 : Ext w1 w) (hP : PcsAt w2 a n ps) (e2 : Ext w2 w) (hB : AA w3 b1 ar2 m1 (Globe.validL ar2)) (e3 : Ext w3 w) (hQ : PcsAt w4 b m qs) (e4 : Ext w4 w) (hT : Tab w) : Calls Tryd.prog 22 #[.agg #[.int .i64 id, .int .i64 ver, .slice a1 n1 c1, .slice a n c], .agg #[.int .i64 id2, .int .i64 ver2, .slice b1 m1 d1, .slice b m d]] w fun e w' => e = .returned (.bool (Prod.overB id ver ar ps id2 ver2 ar2 qs)) ∧ Ext w w' := by
 replace hA := hA.ext e1; replace hP := hP.ext e2; replace hB := hB.ext e3; replace hQ := hQ.ext e4; have hnb := hP.max; have hmb := hQ.max; clear e1 e2 e3 e4
 have hQ9 := hQ; obtain ⟨rs, hR, hrd⟩ := hQ9
 refine icalls_cw 57 [(1, .agg #[.int .i64 id2, .int .i64 ver2, .slice b1 m1 d1, .slice b m d]), (0, .agg #[.int .i64 id, .int .i64 ver, .slice a1 n1 c1, .slice a n c])] Tryd.func22 rfl Tryd.ntmps22 (by kernel_rfl) (by kernel_rfl) (fun L mm => ?_)
 have hE : Ext w w := Ext.refl w
 refine icw_seq ?_
 refine icw_plain ?_
 refine ipl_step rfl (by kernel_rfl) (by kernel_rfl) (by kernel_rfl) (sn_new (us := #[.int .i64 id, .int .i64 ver, .slice a1 n1 c1, .slice a n c]) (t := 31) (by kernel_rfl) ?_)
 intro O1 X2 hzO1 hyO1 hb hbx; have ⟨bO1_0, bO1_1, bO1_2, bO1_3⟩ := bx4 hbx; clear hbx
 replace hE := hE.trans hb; have hs3 := hb.size; clear hb; have lt4 := bO1_0.lt
 refine ipl_step rfl (by kernel_rfl) (by kernel_rfl) (by kernel_rfl) (sn_new (us := #[.int .i64 id2, .int .i64 ver2, .slice b1 m1 d1, .slice b m d]) (t := 31) (by kernel_rfl) ?_)
 intro O5 X6 hzO5 hyO5 hb hbx; have ⟨bO5_0, bO5_1, bO5_2, bO5_3⟩ := bx4 hbx; clear hbx
 replace hE := hE.trans hb; replace bO1_0 := BoxAt.ext hb bO1_0; replace bO1_1 := BoxAt.ext hb bO1_1; replace bO1_2 := BoxAt.ext hb bO1_2; replace bO1_3 := BoxAt.ext hb bO1_3; have hs7 := hb.size; clear hb; have lt8 := bO5_0.lt
 refine ipl_step rfl (by kernel_rfl) (by kernel_rfl) (by kernel_rfl) (sn_new (us := #[.bool false]) (t := 4) (by kernel_rfl) ?_)
 intro O9 X10 hzO9 hyO9 hb hbx; have bO9_0 := bx1 hbx; clear hbx
 replace hE := hE.trans hb; replace bO1_0 := BoxAt.ext hb bO1_0; replace bO1_1 := BoxAt.ext hb bO1_1; replace bO1_2 := BoxAt.ext hb bO1_2; replace bO1_3 := BoxAt.ext hb bO1_3; replace bO5_0 := BoxAt.ext hb bO5_0; replace bO5_1 := BoxAt.ext hb bO5_1; replace bO5_2 := BoxAt.ext hb bO5_2; replace bO5_3 := BoxAt.ext hb bO5_3; have hs11 := hb.size; clear hb; have lt12 := bO9_0.lt
 refine ipl_nil ?_
 refine iqw_then ?_
 refine icw_seq ?_
 refine icw_seq ?_
 refine icw_plain ?_
 refine ipl_take (.agg #[.int .i64 id, .int .i64 ver, .slice a1 n1 c1, .slice a n c]) rfl (by kernel_rfl) (by kernel_rfl) (by kernel_rfl) (ex_load rfl (by kernel_rfl) (ld31 (bO1_0.1) (bO1_1.1) (bO1_2.1) (bO1_3.1))) ?_
 rcases Bool.eq_false_or_eq_true (Prod.validP id ver ar ps) with hb13 | hb13
 ·
  refine ipl_step rfl (by kernel_rfl) (by kernel_rfl) (by kernel_rfl) (sn_call (f := 28) (args := #[.agg #[.int .i64 id, .int .i64 ver, .slice a1 n1 c1, .slice a n c]]) (by kernel_rfl) ((pValid_r (id := id) (ver := ver) (r := true) _ _ (by omega) (aa_q (hA)) hE (hP) hE (hT.ext hE) hb13).mono ?_))
  rintro e w14 ⟨rfl, hb⟩
  replace hE := hE.trans hb; replace bO1_0 := BoxAt.ext hb bO1_0; replace bO1_1 := BoxAt.ext hb bO1_1; replace bO1_2 := BoxAt.ext hb bO1_2; replace bO1_3 := BoxAt.ext hb bO1_3; replace bO5_0 := BoxAt.ext hb bO5_0; replace bO5_1 := BoxAt.ext hb bO5_1; replace bO5_2 := BoxAt.ext hb bO5_2; replace bO5_3 := BoxAt.ext hb bO5_3; replace bO9_0 := BoxAt.ext hb bO9_0; have hs15 := hb.size; clear hb
  refine ⟨_, rfl, ?_⟩
  refine ipl_take (.bool false) rfl (by kernel_rfl) (by kernel_rfl) (by kernel_rfl) (by kernel_rfl) ?_
  refine ipl_take (.bool false) rfl (by kernel_rfl) (by kernel_rfl) (by kernel_rfl) (by kernel_rfl) ?_
  refine ipl_take (.agg #[.int .i64 id2, .int .i64 ver2, .slice b1 m1 d1, .slice b m d]) rfl (by kernel_rfl) (by kernel_rfl) (by kernel_rfl) (ex_load rfl (by kernel_rfl) (ld31 (bO5_0.1) (bO5_1.1) (bO5_2.1) (bO5_3.1))) ?_
  rcases Bool.eq_false_or_eq_true (Prod.validP id2 ver2 ar2 qs) with hb16 | hb16
  ·
   refine ipl_step rfl (by kernel_rfl) (by kernel_rfl) (by kernel_rfl) (sn_call (f := 28) (args := #[.agg #[.int .i64 id2, .int .i64 ver2, .slice b1 m1 d1, .slice b m d]]) (by kernel_rfl) ((pValid_r (id := id2) (ver := ver2) (r := true) _ _ (by omega) (aa_q (hB)) hE (hQ) hE (hT.ext hE) hb16).mono ?_))
   rintro e w17 ⟨rfl, hb⟩
   replace hE := hE.trans hb; replace bO1_0 := BoxAt.ext hb bO1_0; replace bO1_1 := BoxAt.ext hb bO1_1; replace bO1_2 := BoxAt.ext hb bO1_2; replace bO1_3 := BoxAt.ext hb bO1_3; replace bO5_0 := BoxAt.ext hb bO5_0; replace bO5_1 := BoxAt.ext hb bO5_1; replace bO5_2 := BoxAt.ext hb bO5_2; replace bO5_3 := BoxAt.ext hb bO5_3; replace bO9_0 := BoxAt.ext hb bO9_0; have hs18 := hb.size; clear hb
   refine ⟨_, rfl, ?_⟩
   refine ipl_take (.bool false) rfl (by kernel_rfl) (by kernel_rfl) (by kernel_rfl) (by kernel_rfl) ?_
   refine ipl_take (.bool false) rfl (by kernel_rfl) (by kernel_rfl) (by kernel_rfl) (by kernel_rfl) ?_
   refine ipl_take (.bool false) rfl (by kernel_rfl) (by kernel_rfl) (by kernel_rfl) (by kernel_rfl) ?_
   refine ipl_take (.pointer (some ⟨O1, 0, none⟩)) rfl (by kernel_rfl) (by kernel_rfl) (by kernel_rfl) (by kernel_rfl) ?_
   refine ipl_take (.int .i64 id) rfl (by kernel_rfl) (by kernel_rfl) (by kernel_rfl) (ex_load rfl (by kernel_rfl) (ld3 (bO1_0.1))) ?_
   refine ipl_take (.pointer (some ⟨O5, 0, none⟩)) rfl (by kernel_rfl) (by kernel_rfl) (by kernel_rfl) (by kernel_rfl) ?_
   refine ipl_take (.int .i64 id2) rfl (by kernel_rfl) (by kernel_rfl) (by kernel_rfl) (ex_load rfl (by kernel_rfl) (ld3 (bO5_0.1))) ?_
   by_cases hc19 : (id : Int) = (id2 : Int)
   ·
    refine ipl_take (.bool false) rfl (by kernel_rfl) (by kernel_rfl) (by kernel_rfl) (ev_nne (show _ = Result.ok (Next.value (Value.bool ((id : Int) != (id2 : Int)))) _ from by kernel_rfl) (hc19)) ?_
    refine ipl_take (.bool false) rfl (by kernel_rfl) (by kernel_rfl) (by kernel_rfl) (by kernel_rfl) ?_
    refine ipl_take (.bool false) rfl (by kernel_rfl) (by kernel_rfl) (by kernel_rfl) (by kernel_rfl) ?_
    refine ipl_take (.pointer (some ⟨O1, 2, none⟩)) rfl (by kernel_rfl) (by kernel_rfl) (by kernel_rfl) (by kernel_rfl) ?_
    refine ipl_take (.agg #[.slice a1 n1 c1]) rfl (by kernel_rfl) (by kernel_rfl) (by kernel_rfl) (ex_load rfl (by kernel_rfl) (ld26 (bO1_2.1))) ?_
    refine ipl_take (.pointer (some ⟨O5, 2, none⟩)) rfl (by kernel_rfl) (by kernel_rfl) (by kernel_rfl) (by kernel_rfl) ?_
    refine ipl_take (.agg #[.slice b1 m1 d1]) rfl (by kernel_rfl) (by kernel_rfl) (by kernel_rfl) (ex_load rfl (by kernel_rfl) (ld26 (bO5_2.1))) ?_
    rcases Bool.eq_false_or_eq_true (decide (ar = ar2)) with hb20 | hb20
    ·
     refine ipl_step rfl (by kernel_rfl) (by kernel_rfl) (by kernel_rfl) (sn_call (f := 45) (args := #[.agg #[.slice a1 n1 c1], .agg #[.slice b1 m1 d1]]) (by kernel_rfl) ((Same_q (r := true) _ _ _ (hA) hE (hB) hE hb20).mono ?_))
     rintro e w21 ⟨rfl, hb⟩
     replace hE := hE.trans hb; replace bO1_0 := BoxAt.ext hb bO1_0; replace bO1_1 := BoxAt.ext hb bO1_1; replace bO1_2 := BoxAt.ext hb bO1_2; replace bO1_3 := BoxAt.ext hb bO1_3; replace bO5_0 := BoxAt.ext hb bO5_0; replace bO5_1 := BoxAt.ext hb bO5_1; replace bO5_2 := BoxAt.ext hb bO5_2; replace bO5_3 := BoxAt.ext hb bO5_3; replace bO9_0 := BoxAt.ext hb bO9_0; have hs22 := hb.size; clear hb
     refine ⟨_, rfl, ?_⟩
     refine ipl_take (.bool false) rfl (by kernel_rfl) (by kernel_rfl) (by kernel_rfl) (by kernel_rfl) ?_
     refine ipl_take (.bool false) rfl (by kernel_rfl) (by kernel_rfl) (by kernel_rfl) (by kernel_rfl) ?_
     refine ipl_take (.bool false) rfl (by kernel_rfl) (by kernel_rfl) (by kernel_rfl) (by kernel_rfl) ?_
     refine ipl_take (.pointer (some ⟨O1, 1, none⟩)) rfl (by kernel_rfl) (by kernel_rfl) (by kernel_rfl) (by kernel_rfl) ?_
     refine ipl_take (.int .i64 ver) rfl (by kernel_rfl) (by kernel_rfl) (by kernel_rfl) (ex_load rfl (by kernel_rfl) (ld3 (bO1_1.1))) ?_
     refine ipl_take (.pointer (some ⟨O5, 1, none⟩)) rfl (by kernel_rfl) (by kernel_rfl) (by kernel_rfl) (by kernel_rfl) ?_
     refine ipl_take (.int .i64 ver2) rfl (by kernel_rfl) (by kernel_rfl) (by kernel_rfl) (ex_load rfl (by kernel_rfl) (ld3 (bO5_1.1))) ?_
     by_cases hc23 : (ver : Int) ≤ (ver2 : Int)
     ·
      refine ipl_take (.bool true) rfl (by kernel_rfl) (by kernel_rfl) (by kernel_rfl) (ev_dec (show _ = Result.ok (Next.value (Value.bool (decide ((ver : Int) ≤ (ver2 : Int))))) _ from by kernel_rfl) (hc23)) ?_
      refine ipl_take (.bool true) rfl (by kernel_rfl) (by kernel_rfl) (by kernel_rfl) (by kernel_rfl) ?_
      refine ipl_nil ?_
      refine iqw_then ?_
      refine icw_clean [2, 3, 4, 38] (ws' := [(2, .pointer (some ⟨O1, 0, none⟩)), (3, .pointer (some ⟨O5, 0, none⟩)), (4, .pointer (some ⟨O9, 0, none⟩)), (38, .bool true)]) (by kernel_rfl) (fun L => ?_)
      refine icw_t (by kernel_rfl) ?_
      refine icw_seq ?_
      refine icw_plain ?_
      refine ipl_put rfl (by kernel_rfl) (by kernel_rfl) (sn_set (O := O9) (j := 0) (v := .bool false) (ex_store (p := .pointer (some ⟨O9, 0, none⟩)) (v := .bool false) rfl (by kernel_rfl) (by kernel_rfl) (st4 bO9_0.1 bO9_0.2)) bO9_0 ?_)
      intro X24 ho hv0 hk; replace hE := ho.ext hE (T (T hs3 hs7) (Nat.le_of_eq hzO9))
      have q9 := fun (j : Nat) (v : Value) (h : BoxAt _ O1 j v) => ho.box (Nat.ne_of_gt (Nat.lt_of_lt_of_le lt4 (T hs7 (Nat.le_of_eq hzO9)))) h
      replace bO1_0 := q9 _ _ bO1_0; replace bO1_1 := q9 _ _ bO1_1; replace bO1_2 := q9 _ _ bO1_2; replace bO1_3 := q9 _ _ bO1_3; clear q9
      have q9 := fun (j : Nat) (v : Value) (h : BoxAt _ O5 j v) => ho.box (Nat.ne_of_gt (Nat.lt_of_lt_of_le lt8 (Nat.le_of_eq hzO9))) h
      replace bO5_0 := q9 _ _ bO5_0; replace bO5_1 := q9 _ _ bO5_1; replace bO5_2 := q9 _ _ bO5_2; replace bO5_3 := q9 _ _ bO5_3; clear q9; have hs25 : w21.heap.size ≤ X24.heap.size := Nat.le_of_eq ho.size.symm; clear ho hk bO9_0; have bO9_0 := hv0; clear hv0
      refine ipl_nil ?_
      refine iqw_then ?_
      refine icw_ret ?_
      refine iqw_then_ret ?_
      refine iqw_ret0 [.bool false] rfl ⟨⟨_, by kernel_rfl, res_ld (ld4 (bO9_0.1))⟩, trivial⟩ ?_
      exact ⟨congrArg (fun b => Ending.returned (Value.bool b)) (show Prod.overB id ver ar ps id2 ver2 ar2 qs = false by unfold Prod.overB; rw [decide_eq_false (show ¬ ver2 < ver by omega)]; simp).symm, hE⟩
     ·
      refine ipl_take (.bool false) rfl (by kernel_rfl) (by kernel_rfl) (by kernel_rfl) (ev_ndec (show _ = Result.ok (Next.value (Value.bool (decide ((ver : Int) ≤ (ver2 : Int))))) _ from by kernel_rfl) (hc23)) ?_
      refine ipl_take (.bool false) rfl (by kernel_rfl) (by kernel_rfl) (by kernel_rfl) (by kernel_rfl) ?_
      refine ipl_nil ?_
      refine iqw_then ?_
      refine icw_clean [2, 3, 4, 38] (ws' := [(2, .pointer (some ⟨O1, 0, none⟩)), (3, .pointer (some ⟨O5, 0, none⟩)), (4, .pointer (some ⟨O9, 0, none⟩)), (38, .bool false)]) (by kernel_rfl) (fun L => ?_)
      refine icw_f (by kernel_rfl) ?_
      refine icw_skip ?_
      refine iqw_then ?_
      refine icw_seq ?_
      refine icw_seq ?_
      refine icw_plain ?_
      refine ipl_take (.agg #[.int .i64 id2, .int .i64 ver2, .slice b1 m1 d1, .slice b m d]) rfl (by kernel_rfl) (by kernel_rfl) (by kernel_rfl) (ex_load rfl (by kernel_rfl) (ld31 (bO5_0.1) (bO5_1.1) (bO5_2.1) (bO5_3.1))) ?_
      refine ipl_step rfl (by kernel_rfl) (by kernel_rfl) (by kernel_rfl) (sn_call (f := 46) (args := #[.agg #[.int .i64 id2, .int .i64 ver2, .slice b1 m1 d1, .slice b m d]]) (by kernel_rfl) ((given_c _).mono ?_))
      rintro e w29 ⟨B26, rfl, hn27, hc28, hb⟩
      replace hE := hE.trans hb; replace bO1_0 := BoxAt.ext hb bO1_0; replace bO1_1 := BoxAt.ext hb bO1_1; replace bO1_2 := BoxAt.ext hb bO1_2; replace bO1_3 := BoxAt.ext hb bO1_3; replace bO5_0 := BoxAt.ext hb bO5_0; replace bO5_1 := BoxAt.ext hb bO5_1; replace bO5_2 := BoxAt.ext hb bO5_2; replace bO5_3 := BoxAt.ext hb bO5_3; replace bO9_0 := BoxAt.ext hb bO9_0; have hs30 := hb.size; clear hb
      have lt31 := World.block_lt_of_cell? _ _ hc28
      refine ⟨_, rfl, ?_⟩
      refine ipl_nil ?_
      refine iqw_then ?_
      refine icw_block ?_
      refine icw_range (ps := [41, 42]) (by kernel_rfl) (enters_of Tryd.func70 (by kernel_rfl) rfl) (given_seq (X := (fun k => k = O9)) hR hrd (Prod.validP_pcs hb16) hT (hE) hc28 (fun k hk => hk ▸ (T (T hs3 hs7) (Nat.le_of_eq hzO9))) (fun k hk => hk ▸ (Nat.lt_of_lt_of_le lt12 (T hs15 (T hs18 (T hs22 hs30)))))) (Ext.refl _) (encsG_len rs qs) (by kernel_rfl) (fun i W => w29.heap.size ≤ W.heap.size ∧ Ext w W ∧ BoxAt W O1 0 (.int .i64 id) ∧ BoxAt W O1 1 (.int .i64 ver) ∧ BoxAt W O1 2 (.slice a1 n1 c1) ∧ BoxAt W O1 3 (.slice a n c) ∧ BoxAt W O5 0 (.int .i64 id2) ∧ BoxAt W O5 1 (.int .i64 ver2) ∧ BoxAt W O5 2 (.slice b1 m1 d1) ∧ BoxAt W O5 3 (.slice b m d) ∧ W.cell? ⟨B26, 3, none⟩ = some (.slice b m d) ∧ BoxAt W O9 0 (.bool false) ∧ ((giveG rs qs).take i).all (okG ps) = true) (fun cd9 i W => cd9 = .ret ∧ w29.heap.size ≤ W.heap.size ∧ Ext w W ∧ BoxAt W O1 0 (.int .i64 id) ∧ BoxAt W O1 1 (.int .i64 ver) ∧ BoxAt W O1 2 (.slice a1 n1 c1) ∧ BoxAt W O1 3 (.slice a n c) ∧ BoxAt W O5 0 (.int .i64 id2) ∧ BoxAt W O5 1 (.int .i64 ver2) ∧ BoxAt W O5 2 (.slice b1 m1 d1) ∧ BoxAt W O5 3 (.slice b m d) ∧ W.cell? ⟨B26, 3, none⟩ = some (.slice b m d) ∧ BoxAt W O9 0 (.bool false) ∧ Prod.overL ps qs = false) (fun i A B h hm => by obtain ⟨hsz, hE, bO1_0, bO1_1, bO1_2, bO1_3, bO5_0, bO5_1, bO5_2, bO5_3, hc28, b9, hall⟩ := h; exact ⟨T hsz hm.size, hm.ext hE (T hs3 (T hs7 (T hs11 (T hs15 (T hs18 (T hs22 hs30)))))), hm.box bO1_0, hm.box bO1_1, hm.box bO1_2, hm.box bO1_3, hm.box bO5_0, hm.box bO5_1, hm.box bO5_2, hm.box bO5_3, hm.cell hc28, hm.box b9, hall⟩) (fun cd9 i A B h hm => by obtain ⟨rfl, hsz, hE, bO1_0, bO1_1, bO1_2, bO1_3, bO5_0, bO5_1, bO5_2, bO5_3, hc28, b9, hbad⟩ := h; exact ⟨rfl, T hsz hm.size, hm.ext hE (T hs3 (T hs7 (T hs11 (T hs15 (T hs18 (T hs22 hs30)))))), hm.box bO1_0, hm.box bO1_1, hm.box bO1_2, hm.box bO1_3, hm.box bO5_0, hm.box bO5_1, hm.box bO5_2, hm.box bO5_3, hm.cell hc28, hm.box b9, hbad⟩) ⟨Nat.le_refl _, hE, bO1_0, bO1_1, bO1_2, bO1_3, bO5_0, bO5_1, bO5_2, bO5_3, hc28, bO9_0, rfl⟩ ?_ ?_ ?_
      ·
       clear bO1_0 bO1_1 bO1_2 bO1_3 bO5_0 bO5_1 bO5_2 bO5_3 bO9_0 hc28 hE
       intro l34 k35 i w32 hii h _
       obtain ⟨hs33, hE, bO1_0, bO1_1, bO1_2, bO1_3, bO5_0, bO5_1, bO5_2, bO5_3, hc28, b9, hall⟩ := h
       obtain ⟨⟨cc, r⟩, hG⟩ : ∃ z, (giveG rs qs)[i]? = some z := ⟨_, List.getElem?_eq_getElem hii⟩
       rw [encs_at hG]
       have htk : (giveG rs qs).take (i + 1) = (giveG rs qs).take i ++ [(cc, r)] := by rw [List.take_add_one, hG]; rfl
       refine icw_clean [2, 4, 41, 42] (ws' := [(2, .pointer (some ⟨O1, 0, none⟩)), (4, .pointer (some ⟨O9, 0, none⟩)), (41, .agg #[.int .i64 (((cc.1 : Nat) : Int) : Int), .int .i64 (((cc.2 : Nat) : Int) : Int)]), (42, .agg #[.int .i64 r.im, .int .i64 r.t, .bool r.cl, .slice r.a r.n r.c])]) (by kernel_rfl) (fun L => ?_)
       have hrk36 : RK w29.heap.size (fun k => k = O9) w32 w32 := RK.refl _ _ _
       refine icw_seq ?_
       refine icw_plain ?_
       refine ipl_step rfl (by kernel_rfl) (by kernel_rfl) (by kernel_rfl) (sn_new (us := #[.int .i64 0, .int .i64 0]) (t := 43) (by kernel_rfl) ?_)
       intro O37 X38 hzO37 hyO37 hb hbx; have ⟨bO37_0, bO37_1⟩ := bx2 hbx; clear hbx
       replace hE := hE.trans hb; replace bO1_0 := BoxAt.ext hb bO1_0; replace bO1_1 := BoxAt.ext hb bO1_1; replace bO1_2 := BoxAt.ext hb bO1_2; replace bO1_3 := BoxAt.ext hb bO1_3; replace bO5_0 := BoxAt.ext hb bO5_0; replace bO5_1 := BoxAt.ext hb bO5_1; replace bO5_2 := BoxAt.ext hb bO5_2; replace bO5_3 := BoxAt.ext hb bO5_3; replace hc28 := hb.cell hc28; replace b9 := BoxAt.ext hb b9; replace hrk36 := hrk36.ext hb; have hs39 := hb.size; clear hb; have lt40 := bO37_0.lt
       refine ipl_put rfl (by kernel_rfl) (by kernel_rfl) (sn_set2 (O := O37) (j := 0) (v := .int .i64 (((cc.1 : Nat) : Int) : Int)) (v' := .int .i64 (((cc.2 : Nat) : Int) : Int)) (ex_store (p := .pointer (some ⟨O37, 0, none⟩)) (v := .agg #[.int .i64 (((cc.1 : Nat) : Int) : Int), .int .i64 (((cc.2 : Nat) : Int) : Int)]) rfl (by kernel_rfl) (by kernel_rfl) (st43 bO37_0.1 bO37_0.2 bO37_1.1 bO37_1.2)) bO37_0 bO37_1 ?_)
       intro X41 ho hv0 hv1 hk; replace hE := ho.ext hE (T (T hs3 (T hs7 (T hs11 (T hs15 (T hs18 (T hs22 (T hs30 hs33))))))) (Nat.le_of_eq hzO37))
       have q9 := fun (j : Nat) (v : Value) (h : BoxAt _ O1 j v) => ho.box (Nat.ne_of_gt (Nat.lt_of_lt_of_le lt4 (T (T hs7 (T hs11 (T hs15 (T hs18 (T hs22 (T hs30 hs33)))))) (Nat.le_of_eq hzO37)))) h
       replace bO1_0 := q9 _ _ bO1_0; replace bO1_1 := q9 _ _ bO1_1; replace bO1_2 := q9 _ _ bO1_2; replace bO1_3 := q9 _ _ bO1_3; clear q9
       have q9 := fun (j : Nat) (v : Value) (h : BoxAt _ O5 j v) => ho.box (Nat.ne_of_gt (Nat.lt_of_lt_of_le lt8 (T (T hs11 (T hs15 (T hs18 (T hs22 (T hs30 hs33))))) (Nat.le_of_eq hzO37)))) h
       replace bO5_0 := q9 _ _ bO5_0; replace bO5_1 := q9 _ _ bO5_1; replace bO5_2 := q9 _ _ bO5_2; replace bO5_3 := q9 _ _ bO5_3; clear q9; replace hc28 := ho.cell (Nat.ne_of_gt (Nat.lt_of_lt_of_le lt31 (T hs33 (Nat.le_of_eq hzO37)))) hc28; replace b9 := ho.box (Nat.ne_of_gt (Nat.lt_of_lt_of_le lt12 (T (T hs15 (T hs18 (T hs22 (T hs30 hs33)))) (Nat.le_of_eq hzO37)))) b9; replace hrk36 := hrk36.turn ho (.inr (Nat.le_of_eq hzO37)); have hs42 : X38.heap.size ≤ X41.heap.size := Nat.le_of_eq ho.size.symm; clear ho hk bO37_0 bO37_1; have bO37_0 := hv0; clear hv0; have bO37_1 := hv1; clear hv1
       refine ipl_nil ?_
       refine iqw_then ?_
       refine icw_plain ?_
       refine ipl_step rfl (by kernel_rfl) (by kernel_rfl) (by kernel_rfl) (sn_new (us := #[.int .i64 0, .int .i64 0, .bool false, .slice none 0 0]) (t := 41) (by kernel_rfl) ?_)
       intro O43 X44 hzO43 hyO43 hb hbx; have ⟨bO43_0, bO43_1, bO43_2, bO43_3⟩ := bx4 hbx; clear hbx
       replace hE := hE.trans hb; replace bO1_0 := BoxAt.ext hb bO1_0; replace bO1_1 := BoxAt.ext hb bO1_1; replace bO1_2 := BoxAt.ext hb bO1_2; replace bO1_3 := BoxAt.ext hb bO1_3; replace bO5_0 := BoxAt.ext hb bO5_0; replace bO5_1 := BoxAt.ext hb bO5_1; replace bO5_2 := BoxAt.ext hb bO5_2; replace bO5_3 := BoxAt.ext hb bO5_3; replace hc28 := hb.cell hc28; replace b9 := BoxAt.ext hb b9; replace hrk36 := hrk36.ext hb; replace bO37_0 := BoxAt.ext hb bO37_0; replace bO37_1 := BoxAt.ext hb bO37_1; have hs45 := hb.size; clear hb; have lt46 := bO43_0.lt
       refine ipl_put rfl (by kernel_rfl) (by kernel_rfl) (sn_setK4 (O := O43) (j := 0) (v0 := .int .i64 r.im) (v1 := .int .i64 r.t) (v2 := .bool r.cl) (v3 := .slice r.a r.n r.c) (ex_store (p := .pointer (some ⟨O43, 0, none⟩)) (v := .agg #[.int .i64 r.im, .int .i64 r.t, .bool r.cl, .slice r.a r.n r.c]) rfl (by kernel_rfl) (by kernel_rfl) (st41 bO43_0.1 bO43_0.2 bO43_1.1 bO43_1.2 bO43_2.1 bO43_2.2 bO43_3.1 bO43_3.2)) bO43_0 bO43_1 bO43_2 bO43_3 ?_)
       intro X47 ho hv0 hv1 hv2 hv3 hk; replace hE := ho.ext hE (T (T hs3 (T hs7 (T hs11 (T hs15 (T hs18 (T hs22 (T hs30 (T hs33 (T hs39 hs42))))))))) (Nat.le_of_eq hzO43))
       have q9 := fun (j : Nat) (v : Value) (h : BoxAt _ O1 j v) => ho.box (Nat.ne_of_gt (Nat.lt_of_lt_of_le lt4 (T (T hs7 (T hs11 (T hs15 (T hs18 (T hs22 (T hs30 (T hs33 (T hs39 hs42)))))))) (Nat.le_of_eq hzO43)))) h
       replace bO1_0 := q9 _ _ bO1_0; replace bO1_1 := q9 _ _ bO1_1; replace bO1_2 := q9 _ _ bO1_2; replace bO1_3 := q9 _ _ bO1_3; clear q9
       have q9 := fun (j : Nat) (v : Value) (h : BoxAt _ O5 j v) => ho.box (Nat.ne_of_gt (Nat.lt_of_lt_of_le lt8 (T (T hs11 (T hs15 (T hs18 (T hs22 (T hs30 (T hs33 (T hs39 hs42))))))) (Nat.le_of_eq hzO43)))) h
       replace bO5_0 := q9 _ _ bO5_0; replace bO5_1 := q9 _ _ bO5_1; replace bO5_2 := q9 _ _ bO5_2; replace bO5_3 := q9 _ _ bO5_3; clear q9; replace hc28 := ho.cell (Nat.ne_of_gt (Nat.lt_of_lt_of_le lt31 (T (T hs33 (T hs39 hs42)) (Nat.le_of_eq hzO43)))) hc28; replace b9 := ho.box (Nat.ne_of_gt (Nat.lt_of_lt_of_le lt12 (T (T hs15 (T hs18 (T hs22 (T hs30 (T hs33 (T hs39 hs42)))))) (Nat.le_of_eq hzO43)))) b9; replace hrk36 := hrk36.turn ho (.inr (T (T hs39 hs42) (Nat.le_of_eq hzO43)))
       have q9 := fun (j : Nat) (v : Value) (h : BoxAt _ O37 j v) => ho.box (Nat.ne_of_gt (Nat.lt_of_lt_of_le lt40 (T hs42 (Nat.le_of_eq hzO43)))) h
       replace bO37_0 := q9 _ _ bO37_0; replace bO37_1 := q9 _ _ bO37_1; clear q9; have hs48 : X44.heap.size ≤ X47.heap.size := Nat.le_of_eq ho.size.symm; clear ho hk bO43_0 bO43_1 bO43_2 bO43_3; have bO43_0 := hv0; clear hv0; have bO43_1 := hv1; clear hv1; have bO43_2 := hv2; clear hv2; have bO43_3 := hv3; clear hv3
       refine ipl_nil ?_
       refine iqw_asg hrk36 (fun w50 hm49 => ?_)
       replace hE := hm49.ext hE (T hs3 (T hs7 (T hs11 (T hs15 (T hs18 (T hs22 hs30)))))); replace bO1_0 := hm49.box bO1_0; replace bO1_1 := hm49.box bO1_1; replace bO1_2 := hm49.box bO1_2; replace bO1_3 := hm49.box bO1_3; replace bO5_0 := hm49.box bO5_0; replace bO5_1 := hm49.box bO5_1; replace bO5_2 := hm49.box bO5_2; replace bO5_3 := hm49.box bO5_3; replace hc28 := hm49.cell hc28; replace b9 := hm49.box b9; replace bO37_0 := hm49.box bO37_0; replace bO37_1 := hm49.box bO37_1; replace bO43_0 := hm49.box bO43_0; replace bO43_1 := hm49.box bO43_1; replace bO43_2 := hm49.box bO43_2; replace bO43_3 := hm49.box bO43_3; have hs51 := hm49.size
       have hrk52 : RK w29.heap.size (fun k => k = O9) w50 w50 := RK.refl _ _ _
       refine icw_block ?_
       refine icw_seq ?_
       rcases hf : ps.find? (fun p => hasB p.rw ((cc.1 : Nat) : Int) ((cc.2 : Nat) : Int)) with _ | x
       ·
        have hok9 : okG ps (cc, r) = false := by unfold okG; rw [hf]
        refine icw_plain ?_
        refine ipl_take (.agg #[.int .i64 id, .int .i64 ver, .slice a1 n1 c1, .slice a n c]) rfl (by kernel_rfl) (by kernel_rfl) (by kernel_rfl) (ex_load rfl (by kernel_rfl) (ld31 (bO1_0.1) (bO1_1.1) (bO1_2.1) (bO1_3.1))) ?_
        refine ipl_take (.agg #[.int .i64 (((cc.1 : Nat) : Int) : Int), .int .i64 (((cc.2 : Nat) : Int) : Int)]) rfl (by kernel_rfl) (by kernel_rfl) (by kernel_rfl) (ex_load rfl (by kernel_rfl) (ld43 (bO37_0.1) (bO37_1.1))) ?_
        refine ipl_step rfl (by kernel_rfl) (by kernel_rfl) (by kernel_rfl) (sn_call (f := 43) (args := #[.agg #[.int .i64 id, .int .i64 ver, .slice a1 n1 c1, .slice a n c], .agg #[.int .i64 (((cc.1 : Nat) : Int) : Int), .int .i64 (((cc.2 : Nat) : Int) : Int)]]) (by kernel_rfl) ((giving_n (id := id) (ver := ver) _ _ (by omega) (aa_q (hA)) hE (hP) hE (hT.ext hE) hf).mono ?_))
        rintro e w53 ⟨rfl, hb⟩
        replace hE := hE.trans hb; replace bO1_0 := BoxAt.ext hb bO1_0; replace bO1_1 := BoxAt.ext hb bO1_1; replace bO1_2 := BoxAt.ext hb bO1_2; replace bO1_3 := BoxAt.ext hb bO1_3; replace bO5_0 := BoxAt.ext hb bO5_0; replace bO5_1 := BoxAt.ext hb bO5_1; replace bO5_2 := BoxAt.ext hb bO5_2; replace bO5_3 := BoxAt.ext hb bO5_3; replace hc28 := hb.cell hc28; replace b9 := BoxAt.ext hb b9; replace bO37_0 := BoxAt.ext hb bO37_0; replace bO37_1 := BoxAt.ext hb bO37_1; replace bO43_0 := BoxAt.ext hb bO43_0; replace bO43_1 := BoxAt.ext hb bO43_1; replace bO43_2 := BoxAt.ext hb bO43_2; replace bO43_3 := BoxAt.ext hb bO43_3; replace hrk52 := hrk52.ext hb; have hs54 := hb.size; clear hb
        refine ⟨_, rfl, ?_⟩
        refine ipl_take (.tuple #[.agg #[.int .i64 0, .int .i64 0, .bool false, .slice none 0 0], .bool false]) rfl (by kernel_rfl) (by kernel_rfl) (by kernel_rfl) (by kernel_rfl) ?_
        refine ipl_take (.agg #[.int .i64 0, .int .i64 0, .bool false, .slice none 0 0]) rfl (by kernel_rfl) (by kernel_rfl) (by kernel_rfl) (by kernel_rfl) ?_
        refine ipl_take (.bool false) rfl (by kernel_rfl) (by kernel_rfl) (by kernel_rfl) (by kernel_rfl) ?_
        refine ipl_step rfl (by kernel_rfl) (by kernel_rfl) (by kernel_rfl) (sn_new (us := #[.int .i64 0, .int .i64 0, .bool false, .slice none 0 0]) (t := 41) (by kernel_rfl) ?_)
        intro O55 X56 hzO55 hyO55 hb hbx; have ⟨bO55_0, bO55_1, bO55_2, bO55_3⟩ := bx4 hbx; clear hbx
        replace hE := hE.trans hb; replace bO1_0 := BoxAt.ext hb bO1_0; replace bO1_1 := BoxAt.ext hb bO1_1; replace bO1_2 := BoxAt.ext hb bO1_2; replace bO1_3 := BoxAt.ext hb bO1_3; replace bO5_0 := BoxAt.ext hb bO5_0; replace bO5_1 := BoxAt.ext hb bO5_1; replace bO5_2 := BoxAt.ext hb bO5_2; replace bO5_3 := BoxAt.ext hb bO5_3; replace hc28 := hb.cell hc28; replace b9 := BoxAt.ext hb b9; replace bO37_0 := BoxAt.ext hb bO37_0; replace bO37_1 := BoxAt.ext hb bO37_1; replace bO43_0 := BoxAt.ext hb bO43_0; replace bO43_1 := BoxAt.ext hb bO43_1; replace bO43_2 := BoxAt.ext hb bO43_2; replace bO43_3 := BoxAt.ext hb bO43_3; replace hrk52 := hrk52.ext hb; have hs57 := hb.size; clear hb; have lt58 := bO55_0.lt
        refine ipl_put rfl (by kernel_rfl) (by kernel_rfl) (sn_setK4 (O := O55) (j := 0) (v0 := .int .i64 0) (v1 := .int .i64 0) (v2 := .bool false) (v3 := .slice none 0 0) (ex_store (p := .pointer (some ⟨O55, 0, none⟩)) (v := .agg #[.int .i64 0, .int .i64 0, .bool false, .slice none 0 0]) rfl (by kernel_rfl) (by kernel_rfl) (st41 bO55_0.1 bO55_0.2 bO55_1.1 bO55_1.2 bO55_2.1 bO55_2.2 bO55_3.1 bO55_3.2)) bO55_0 bO55_1 bO55_2 bO55_3 ?_)
        intro X59 ho hv0 hv1 hv2 hv3 hk; replace hE := ho.ext hE (T (T hs3 (T hs7 (T hs11 (T hs15 (T hs18 (T hs22 (T hs30 (T hs33 (T hs39 (T hs42 (T hs45 (T hs48 (T hs51 hs54))))))))))))) (Nat.le_of_eq hzO55))
        have q9 := fun (j : Nat) (v : Value) (h : BoxAt _ O1 j v) => ho.box (Nat.ne_of_gt (Nat.lt_of_lt_of_le lt4 (T (T hs7 (T hs11 (T hs15 (T hs18 (T hs22 (T hs30 (T hs33 (T hs39 (T hs42 (T hs45 (T hs48 (T hs51 hs54)))))))))))) (Nat.le_of_eq hzO55)))) h
        replace bO1_0 := q9 _ _ bO1_0; replace bO1_1 := q9 _ _ bO1_1; replace bO1_2 := q9 _ _ bO1_2; replace bO1_3 := q9 _ _ bO1_3; clear q9
        have q9 := fun (j : Nat) (v : Value) (h : BoxAt _ O5 j v) => ho.box (Nat.ne_of_gt (Nat.lt_of_lt_of_le lt8 (T (T hs11 (T hs15 (T hs18 (T hs22 (T hs30 (T hs33 (T hs39 (T hs42 (T hs45 (T hs48 (T hs51 hs54))))))))))) (Nat.le_of_eq hzO55)))) h
        replace bO5_0 := q9 _ _ bO5_0; replace bO5_1 := q9 _ _ bO5_1; replace bO5_2 := q9 _ _ bO5_2; replace bO5_3 := q9 _ _ bO5_3; clear q9; replace hc28 := ho.cell (Nat.ne_of_gt (Nat.lt_of_lt_of_le lt31 (T (T hs33 (T hs39 (T hs42 (T hs45 (T hs48 (T hs51 hs54)))))) (Nat.le_of_eq hzO55)))) hc28; replace b9 := ho.box (Nat.ne_of_gt (Nat.lt_of_lt_of_le lt12 (T (T hs15 (T hs18 (T hs22 (T hs30 (T hs33 (T hs39 (T hs42 (T hs45 (T hs48 (T hs51 hs54)))))))))) (Nat.le_of_eq hzO55)))) b9
        have q9 := fun (j : Nat) (v : Value) (h : BoxAt _ O37 j v) => ho.box (Nat.ne_of_gt (Nat.lt_of_lt_of_le lt40 (T (T hs42 (T hs45 (T hs48 (T hs51 hs54)))) (Nat.le_of_eq hzO55)))) h
        replace bO37_0 := q9 _ _ bO37_0; replace bO37_1 := q9 _ _ bO37_1; clear q9
        have q9 := fun (j : Nat) (v : Value) (h : BoxAt _ O43 j v) => ho.box (Nat.ne_of_gt (Nat.lt_of_lt_of_le lt46 (T (T hs48 (T hs51 hs54)) (Nat.le_of_eq hzO55)))) h
        replace bO43_0 := q9 _ _ bO43_0; replace bO43_1 := q9 _ _ bO43_1; replace bO43_2 := q9 _ _ bO43_2; replace bO43_3 := q9 _ _ bO43_3; clear q9; replace hrk52 := hrk52.turn ho (.inr (T hs54 (Nat.le_of_eq hzO55))); have hs60 : X56.heap.size ≤ X59.heap.size := Nat.le_of_eq ho.size.symm; clear ho hk bO55_0 bO55_1 bO55_2 bO55_3; have bO55_0 := hv0; clear hv0; have bO55_1 := hv1; clear hv1; have bO55_2 := hv2; clear hv2; have bO55_3 := hv3; clear hv3
        refine ipl_take (.bool false) rfl (by kernel_rfl) (by kernel_rfl) (by kernel_rfl) (by kernel_rfl) ?_
        refine ipl_nil ?_
        refine iqw_then ?_
        refine icw_seq ?_
        refine icw_plain ?_
        refine ipl_take (.bool false) rfl (by kernel_rfl) (by kernel_rfl) (by kernel_rfl) (by kernel_rfl) ?_
        refine ipl_take (.bool true) rfl (by kernel_rfl) (by kernel_rfl) (by kernel_rfl) (by kernel_rfl) ?_
        refine ipl_take (.bool true) rfl (by kernel_rfl) (by kernel_rfl) (by kernel_rfl) (by kernel_rfl) ?_
        refine ipl_skip rfl (by kernel_rfl) (by kernel_rfl) (by kernel_rfl) ?_
        refine ipl_skip rfl (by kernel_rfl) (by kernel_rfl) (by kernel_rfl) ?_
        refine ipl_skip rfl (by kernel_rfl) (by kernel_rfl) (by kernel_rfl) ?_
        refine ipl_skip rfl (by kernel_rfl) (by kernel_rfl) (by kernel_rfl) ?_
        refine ipl_take (.bool true) rfl (by kernel_rfl) (by kernel_rfl) (by kernel_rfl) (by kernel_rfl) ?_
        refine ipl_nil ?_
        refine iqw_then ?_
        refine icw_clean [4, 56] (ws' := [(4, .pointer (some ⟨O9, 0, none⟩)), (56, .bool true)]) (by kernel_rfl) (fun L => ?_)
        refine icw_t (by kernel_rfl) ?_
        refine icw_seq ?_
        refine icw_plain ?_
        refine ipl_put rfl (by kernel_rfl) (by kernel_rfl) (sn_set (O := O9) (j := 0) (v := .bool false) (ex_store (p := .pointer (some ⟨O9, 0, none⟩)) (v := .bool false) rfl (by kernel_rfl) (by kernel_rfl) (st4 b9.1 b9.2)) b9 ?_)
        intro X61 ho hv0 hk; replace hE := ho.ext hE (T (T hs3 hs7) (Nat.le_of_eq hzO9))
        have q9 := fun (j : Nat) (v : Value) (h : BoxAt _ O1 j v) => ho.box (Nat.ne_of_gt (Nat.lt_of_lt_of_le lt4 (T hs7 (Nat.le_of_eq hzO9)))) h
        replace bO1_0 := q9 _ _ bO1_0; replace bO1_1 := q9 _ _ bO1_1; replace bO1_2 := q9 _ _ bO1_2; replace bO1_3 := q9 _ _ bO1_3; clear q9
        have q9 := fun (j : Nat) (v : Value) (h : BoxAt _ O5 j v) => ho.box (Nat.ne_of_gt (Nat.lt_of_lt_of_le lt8 (Nat.le_of_eq hzO9))) h
        replace bO5_0 := q9 _ _ bO5_0; replace bO5_1 := q9 _ _ bO5_1; replace bO5_2 := q9 _ _ bO5_2; replace bO5_3 := q9 _ _ bO5_3; clear q9; replace hc28 := ho.cell (Nat.ne_of_lt (Nat.lt_of_lt_of_le lt12 (T (T hs15 (T hs18 hs22)) hn27))) hc28
        have q9 := fun (j : Nat) (v : Value) (h : BoxAt _ O37 j v) => ho.box (Nat.ne_of_lt (Nat.lt_of_lt_of_le lt12 (T (T hs15 (T hs18 (T hs22 (T hs30 hs33)))) (Nat.le_of_eq hzO37)))) h
        replace bO37_0 := q9 _ _ bO37_0; replace bO37_1 := q9 _ _ bO37_1; clear q9
        have q9 := fun (j : Nat) (v : Value) (h : BoxAt _ O43 j v) => ho.box (Nat.ne_of_lt (Nat.lt_of_lt_of_le lt12 (T (T hs15 (T hs18 (T hs22 (T hs30 (T hs33 (T hs39 hs42)))))) (Nat.le_of_eq hzO43)))) h
        replace bO43_0 := q9 _ _ bO43_0; replace bO43_1 := q9 _ _ bO43_1; replace bO43_2 := q9 _ _ bO43_2; replace bO43_3 := q9 _ _ bO43_3; clear q9; replace hrk52 := hrk52.turn ho (.inl (rfl))
        have q9 := fun (j : Nat) (v : Value) (h : BoxAt _ O55 j v) => ho.box (Nat.ne_of_lt (Nat.lt_of_lt_of_le lt12 (T (T hs15 (T hs18 (T hs22 (T hs30 (T hs33 (T hs39 (T hs42 (T hs45 (T hs48 (T hs51 hs54)))))))))) (Nat.le_of_eq hzO55)))) h
        replace bO55_0 := q9 _ _ bO55_0; replace bO55_1 := q9 _ _ bO55_1; replace bO55_2 := q9 _ _ bO55_2; replace bO55_3 := q9 _ _ bO55_3; clear q9; have hs62 : X59.heap.size ≤ X61.heap.size := Nat.le_of_eq ho.size.symm; clear ho hk b9; have b9 := hv0; clear hv0
        refine ipl_nil ?_
        refine iqw_then ?_
        refine icw_ret ?_
        refine iqw_block_ret ?_
        exact iqw_brk_ret hrk52 ⟨rfl, (T hs33 (T hs39 (T hs42 (T hs45 (T hs48 (T hs51 (T hs54 (T hs57 (T hs60 hs62))))))))), hE, bO1_0, bO1_1, bO1_2, bO1_3, bO5_0, bO5_1, bO5_2, bO5_3, hc28, b9, (by rw [← overG_all hrd]; exact overG_bad hG hok9)⟩
       ·
        refine icw_plain ?_
        refine ipl_take (.agg #[.int .i64 id, .int .i64 ver, .slice a1 n1 c1, .slice a n c]) rfl (by kernel_rfl) (by kernel_rfl) (by kernel_rfl) (ex_load rfl (by kernel_rfl) (ld31 (bO1_0.1) (bO1_1.1) (bO1_2.1) (bO1_3.1))) ?_
        refine ipl_take (.agg #[.int .i64 (((cc.1 : Nat) : Int) : Int), .int .i64 (((cc.2 : Nat) : Int) : Int)]) rfl (by kernel_rfl) (by kernel_rfl) (by kernel_rfl) (ex_load rfl (by kernel_rfl) (ld43 (bO37_0.1) (bO37_1.1))) ?_
        refine ipl_step rfl (by kernel_rfl) (by kernel_rfl) (by kernel_rfl) (sn_call (f := 43) (args := #[.agg #[.int .i64 id, .int .i64 ver, .slice a1 n1 c1, .slice a n c], .agg #[.int .i64 (((cc.1 : Nat) : Int) : Int), .int .i64 (((cc.2 : Nat) : Int) : Int)]]) (by kernel_rfl) ((giving_y (id := id) (ver := ver) _ _ (by omega) (aa_q (hA)) hE (hP) hE (hT.ext hE) hf).mono ?_))
        rintro e w67 ⟨ar63, k64, c65, rfl, hA66, hb⟩
        replace hE := hE.trans hb; replace bO1_0 := BoxAt.ext hb bO1_0; replace bO1_1 := BoxAt.ext hb bO1_1; replace bO1_2 := BoxAt.ext hb bO1_2; replace bO1_3 := BoxAt.ext hb bO1_3; replace bO5_0 := BoxAt.ext hb bO5_0; replace bO5_1 := BoxAt.ext hb bO5_1; replace bO5_2 := BoxAt.ext hb bO5_2; replace bO5_3 := BoxAt.ext hb bO5_3; replace hc28 := hb.cell hc28; replace b9 := BoxAt.ext hb b9; replace bO37_0 := BoxAt.ext hb bO37_0; replace bO37_1 := BoxAt.ext hb bO37_1; replace bO43_0 := BoxAt.ext hb bO43_0; replace bO43_1 := BoxAt.ext hb bO43_1; replace bO43_2 := BoxAt.ext hb bO43_2; replace bO43_3 := BoxAt.ext hb bO43_3; replace hrk52 := hrk52.ext hb; have hs68 := hb.size; clear hb
        refine ⟨_, rfl, ?_⟩
        refine ipl_take (.tuple #[.agg #[.int .i64 x.im, .int .i64 x.t, .bool x.cl, .slice ar63 k64 c65], .bool true]) rfl (by kernel_rfl) (by kernel_rfl) (by kernel_rfl) (by kernel_rfl) ?_
        refine ipl_take (.agg #[.int .i64 x.im, .int .i64 x.t, .bool x.cl, .slice ar63 k64 c65]) rfl (by kernel_rfl) (by kernel_rfl) (by kernel_rfl) (by kernel_rfl) ?_
        refine ipl_take (.bool true) rfl (by kernel_rfl) (by kernel_rfl) (by kernel_rfl) (by kernel_rfl) ?_
        refine ipl_step rfl (by kernel_rfl) (by kernel_rfl) (by kernel_rfl) (sn_new (us := #[.int .i64 0, .int .i64 0, .bool false, .slice none 0 0]) (t := 41) (by kernel_rfl) ?_)
        intro O69 X70 hzO69 hyO69 hb hbx; have ⟨bO69_0, bO69_1, bO69_2, bO69_3⟩ := bx4 hbx; clear hbx
        replace hE := hE.trans hb; replace bO1_0 := BoxAt.ext hb bO1_0; replace bO1_1 := BoxAt.ext hb bO1_1; replace bO1_2 := BoxAt.ext hb bO1_2; replace bO1_3 := BoxAt.ext hb bO1_3; replace bO5_0 := BoxAt.ext hb bO5_0; replace bO5_1 := BoxAt.ext hb bO5_1; replace bO5_2 := BoxAt.ext hb bO5_2; replace bO5_3 := BoxAt.ext hb bO5_3; replace hc28 := hb.cell hc28; replace b9 := BoxAt.ext hb b9; replace bO37_0 := BoxAt.ext hb bO37_0; replace bO37_1 := BoxAt.ext hb bO37_1; replace bO43_0 := BoxAt.ext hb bO43_0; replace bO43_1 := BoxAt.ext hb bO43_1; replace bO43_2 := BoxAt.ext hb bO43_2; replace bO43_3 := BoxAt.ext hb bO43_3; replace hrk52 := hrk52.ext hb; have hs71 := hb.size; clear hb; have lt72 := bO69_0.lt
        refine ipl_put rfl (by kernel_rfl) (by kernel_rfl) (sn_setK4 (O := O69) (j := 0) (v0 := .int .i64 x.im) (v1 := .int .i64 x.t) (v2 := .bool x.cl) (v3 := .slice ar63 k64 c65) (ex_store (p := .pointer (some ⟨O69, 0, none⟩)) (v := .agg #[.int .i64 x.im, .int .i64 x.t, .bool x.cl, .slice ar63 k64 c65]) rfl (by kernel_rfl) (by kernel_rfl) (st41 bO69_0.1 bO69_0.2 bO69_1.1 bO69_1.2 bO69_2.1 bO69_2.2 bO69_3.1 bO69_3.2)) bO69_0 bO69_1 bO69_2 bO69_3 ?_)
        intro X73 ho hv0 hv1 hv2 hv3 hk; replace hE := ho.ext hE (T (T hs3 (T hs7 (T hs11 (T hs15 (T hs18 (T hs22 (T hs30 (T hs33 (T hs39 (T hs42 (T hs45 (T hs48 (T hs51 hs68))))))))))))) (Nat.le_of_eq hzO69))
        have q9 := fun (j : Nat) (v : Value) (h : BoxAt _ O1 j v) => ho.box (Nat.ne_of_gt (Nat.lt_of_lt_of_le lt4 (T (T hs7 (T hs11 (T hs15 (T hs18 (T hs22 (T hs30 (T hs33 (T hs39 (T hs42 (T hs45 (T hs48 (T hs51 hs68)))))))))))) (Nat.le_of_eq hzO69)))) h
        replace bO1_0 := q9 _ _ bO1_0; replace bO1_1 := q9 _ _ bO1_1; replace bO1_2 := q9 _ _ bO1_2; replace bO1_3 := q9 _ _ bO1_3; clear q9
        have q9 := fun (j : Nat) (v : Value) (h : BoxAt _ O5 j v) => ho.box (Nat.ne_of_gt (Nat.lt_of_lt_of_le lt8 (T (T hs11 (T hs15 (T hs18 (T hs22 (T hs30 (T hs33 (T hs39 (T hs42 (T hs45 (T hs48 (T hs51 hs68))))))))))) (Nat.le_of_eq hzO69)))) h
        replace bO5_0 := q9 _ _ bO5_0; replace bO5_1 := q9 _ _ bO5_1; replace bO5_2 := q9 _ _ bO5_2; replace bO5_3 := q9 _ _ bO5_3; clear q9; replace hc28 := ho.cell (Nat.ne_of_gt (Nat.lt_of_lt_of_le lt31 (T (T hs33 (T hs39 (T hs42 (T hs45 (T hs48 (T hs51 hs68)))))) (Nat.le_of_eq hzO69)))) hc28; replace b9 := ho.box (Nat.ne_of_gt (Nat.lt_of_lt_of_le lt12 (T (T hs15 (T hs18 (T hs22 (T hs30 (T hs33 (T hs39 (T hs42 (T hs45 (T hs48 (T hs51 hs68)))))))))) (Nat.le_of_eq hzO69)))) b9
        have q9 := fun (j : Nat) (v : Value) (h : BoxAt _ O37 j v) => ho.box (Nat.ne_of_gt (Nat.lt_of_lt_of_le lt40 (T (T hs42 (T hs45 (T hs48 (T hs51 hs68)))) (Nat.le_of_eq hzO69)))) h
        replace bO37_0 := q9 _ _ bO37_0; replace bO37_1 := q9 _ _ bO37_1; clear q9
        have q9 := fun (j : Nat) (v : Value) (h : BoxAt _ O43 j v) => ho.box (Nat.ne_of_gt (Nat.lt_of_lt_of_le lt46 (T (T hs48 (T hs51 hs68)) (Nat.le_of_eq hzO69)))) h
        replace bO43_0 := q9 _ _ bO43_0; replace bO43_1 := q9 _ _ bO43_1; replace bO43_2 := q9 _ _ bO43_2; replace bO43_3 := q9 _ _ bO43_3; clear q9; replace hrk52 := hrk52.turn ho (.inr (T hs68 (Nat.le_of_eq hzO69))); have hs74 : X70.heap.size ≤ X73.heap.size := Nat.le_of_eq ho.size.symm; clear ho hk bO69_0 bO69_1 bO69_2 bO69_3; have bO69_0 := hv0; clear hv0; have bO69_1 := hv1; clear hv1; have bO69_2 := hv2; clear hv2; have bO69_3 := hv3; clear hv3
        refine ipl_take (.bool true) rfl (by kernel_rfl) (by kernel_rfl) (by kernel_rfl) (by kernel_rfl) ?_
        refine ipl_nil ?_
        refine iqw_then ?_
        refine icw_seq ?_
        refine icw_plain ?_
        refine ipl_take (.bool true) rfl (by kernel_rfl) (by kernel_rfl) (by kernel_rfl) (by kernel_rfl) ?_
        refine ipl_take (.bool false) rfl (by kernel_rfl) (by kernel_rfl) (by kernel_rfl) (by kernel_rfl) ?_
        refine ipl_take (.bool false) rfl (by kernel_rfl) (by kernel_rfl) (by kernel_rfl) (by kernel_rfl) ?_
        refine ipl_take (.agg #[.int .i64 x.im, .int .i64 x.t, .bool x.cl, .slice ar63 k64 c65]) rfl (by kernel_rfl) (by kernel_rfl) (by kernel_rfl) (ex_load rfl (by kernel_rfl) (ld41 (bO69_0.1) (bO69_1.1) (bO69_2.1) (bO69_3.1))) ?_
        refine ipl_take (.agg #[.int .i64 r.im, .int .i64 r.t, .bool r.cl, .slice r.a r.n r.c]) rfl (by kernel_rfl) (by kernel_rfl) (by kernel_rfl) (ex_load rfl (by kernel_rfl) (ld41 (bO43_0.1) (bO43_1.1) (bO43_2.1) (bO43_3.1))) ?_
        refine ipl_step rfl (by kernel_rfl) (by kernel_rfl) (by kernel_rfl) (sn_call (f := 47) (args := #[.agg #[.int .i64 x.im, .int .i64 x.t, .bool x.cl, .slice ar63 k64 c65], .agg #[.int .i64 r.im, .int .i64 r.t, .bool r.cl, .slice r.a r.n r.c]]) (by kernel_rfl) ((rank_c (x := x) (y := ⟨r.im, r.t, r.cl, []⟩) _).mono ?_))
        rintro e w75 ⟨rfl, hb⟩
        replace hE := hE.trans hb; replace bO1_0 := BoxAt.ext hb bO1_0; replace bO1_1 := BoxAt.ext hb bO1_1; replace bO1_2 := BoxAt.ext hb bO1_2; replace bO1_3 := BoxAt.ext hb bO1_3; replace bO5_0 := BoxAt.ext hb bO5_0; replace bO5_1 := BoxAt.ext hb bO5_1; replace bO5_2 := BoxAt.ext hb bO5_2; replace bO5_3 := BoxAt.ext hb bO5_3; replace hc28 := hb.cell hc28; replace b9 := BoxAt.ext hb b9; replace bO37_0 := BoxAt.ext hb bO37_0; replace bO37_1 := BoxAt.ext hb bO37_1; replace bO43_0 := BoxAt.ext hb bO43_0; replace bO43_1 := BoxAt.ext hb bO43_1; replace bO43_2 := BoxAt.ext hb bO43_2; replace bO43_3 := BoxAt.ext hb bO43_3; replace hrk52 := hrk52.ext hb; replace bO69_0 := BoxAt.ext hb bO69_0; replace bO69_1 := BoxAt.ext hb bO69_1; replace bO69_2 := BoxAt.ext hb bO69_2; replace bO69_3 := BoxAt.ext hb bO69_3; have hs76 := hb.size; clear hb
        refine ⟨_, rfl, ?_⟩
        by_cases hc77 : (Prod.rk x.cl x.t x.im r.cl r.t r.im : Int) < (0 : Int)
        ·
         have hok9 : okG ps (cc, r) = false := by unfold okG; rw [hf]; simp [Prod.rk_neg.1 hc77]
         refine ipl_take (.bool true) rfl (by kernel_rfl) (by kernel_rfl) (by kernel_rfl) (ev_dec (show _ = Result.ok (Next.value (Value.bool (decide ((Prod.rk x.cl x.t x.im r.cl r.t r.im : Int) < (0 : Int))))) _ from by kernel_rfl) (hc77)) ?_
         refine ipl_take (.bool true) rfl (by kernel_rfl) (by kernel_rfl) (by kernel_rfl) (by kernel_rfl) ?_
         refine ipl_nil ?_
         refine iqw_then ?_
         refine icw_clean [4, 56] (ws' := [(4, .pointer (some ⟨O9, 0, none⟩)), (56, .bool true)]) (by kernel_rfl) (fun L => ?_)
         refine icw_t (by kernel_rfl) ?_
         refine icw_seq ?_
         refine icw_plain ?_
         refine ipl_put rfl (by kernel_rfl) (by kernel_rfl) (sn_set (O := O9) (j := 0) (v := .bool false) (ex_store (p := .pointer (some ⟨O9, 0, none⟩)) (v := .bool false) rfl (by kernel_rfl) (by kernel_rfl) (st4 b9.1 b9.2)) b9 ?_)
         intro X78 ho hv0 hk; replace hE := ho.ext hE (T (T hs3 hs7) (Nat.le_of_eq hzO9))
         have q9 := fun (j : Nat) (v : Value) (h : BoxAt _ O1 j v) => ho.box (Nat.ne_of_gt (Nat.lt_of_lt_of_le lt4 (T hs7 (Nat.le_of_eq hzO9)))) h
         replace bO1_0 := q9 _ _ bO1_0; replace bO1_1 := q9 _ _ bO1_1; replace bO1_2 := q9 _ _ bO1_2; replace bO1_3 := q9 _ _ bO1_3; clear q9
         have q9 := fun (j : Nat) (v : Value) (h : BoxAt _ O5 j v) => ho.box (Nat.ne_of_gt (Nat.lt_of_lt_of_le lt8 (Nat.le_of_eq hzO9))) h
         replace bO5_0 := q9 _ _ bO5_0; replace bO5_1 := q9 _ _ bO5_1; replace bO5_2 := q9 _ _ bO5_2; replace bO5_3 := q9 _ _ bO5_3; clear q9; replace hc28 := ho.cell (Nat.ne_of_lt (Nat.lt_of_lt_of_le lt12 (T (T hs15 (T hs18 hs22)) hn27))) hc28
         have q9 := fun (j : Nat) (v : Value) (h : BoxAt _ O37 j v) => ho.box (Nat.ne_of_lt (Nat.lt_of_lt_of_le lt12 (T (T hs15 (T hs18 (T hs22 (T hs30 hs33)))) (Nat.le_of_eq hzO37)))) h
         replace bO37_0 := q9 _ _ bO37_0; replace bO37_1 := q9 _ _ bO37_1; clear q9
         have q9 := fun (j : Nat) (v : Value) (h : BoxAt _ O43 j v) => ho.box (Nat.ne_of_lt (Nat.lt_of_lt_of_le lt12 (T (T hs15 (T hs18 (T hs22 (T hs30 (T hs33 (T hs39 hs42)))))) (Nat.le_of_eq hzO43)))) h
         replace bO43_0 := q9 _ _ bO43_0; replace bO43_1 := q9 _ _ bO43_1; replace bO43_2 := q9 _ _ bO43_2; replace bO43_3 := q9 _ _ bO43_3; clear q9; replace hrk52 := hrk52.turn ho (.inl (rfl))
         have q9 := fun (j : Nat) (v : Value) (h : BoxAt _ O69 j v) => ho.box (Nat.ne_of_lt (Nat.lt_of_lt_of_le lt12 (T (T hs15 (T hs18 (T hs22 (T hs30 (T hs33 (T hs39 (T hs42 (T hs45 (T hs48 (T hs51 hs68)))))))))) (Nat.le_of_eq hzO69)))) h
         replace bO69_0 := q9 _ _ bO69_0; replace bO69_1 := q9 _ _ bO69_1; replace bO69_2 := q9 _ _ bO69_2; replace bO69_3 := q9 _ _ bO69_3; clear q9; have hs79 : w75.heap.size ≤ X78.heap.size := Nat.le_of_eq ho.size.symm; clear ho hk b9; have b9 := hv0; clear hv0
         refine ipl_nil ?_
         refine iqw_then ?_
         refine icw_ret ?_
         refine iqw_block_ret ?_
         exact iqw_brk_ret hrk52 ⟨rfl, (T hs33 (T hs39 (T hs42 (T hs45 (T hs48 (T hs51 (T hs68 (T hs71 (T hs74 (T hs76 hs79)))))))))), hE, bO1_0, bO1_1, bO1_2, bO1_3, bO5_0, bO5_1, bO5_2, bO5_3, hc28, b9, (by rw [← overG_all hrd]; exact overG_bad hG hok9)⟩
        ·
         have hok9 : okG ps (cc, r) = true := by unfold okG; rw [hf]; simp; exact Bool.eq_false_iff.2 (fun q => hc77 (Prod.rk_neg.2 q))
         refine ipl_take (.bool false) rfl (by kernel_rfl) (by kernel_rfl) (by kernel_rfl) (ev_ndec (show _ = Result.ok (Next.value (Value.bool (decide ((Prod.rk x.cl x.t x.im r.cl r.t r.im : Int) < (0 : Int))))) _ from by kernel_rfl) (hc77)) ?_
         refine ipl_take (.bool false) rfl (by kernel_rfl) (by kernel_rfl) (by kernel_rfl) (by kernel_rfl) ?_
         refine ipl_nil ?_
         refine iqw_then ?_
         refine icw_clean [4, 56] (ws' := [(4, .pointer (some ⟨O9, 0, none⟩)), (56, .bool false)]) (by kernel_rfl) (fun L => ?_)
         refine icw_f (by kernel_rfl) ?_
         refine icw_skip ?_
         refine iqw_block ?_
         exact iqw_next hrk52 ⟨(T hs33 (T hs39 (T hs42 (T hs45 (T hs48 (T hs51 (T hs68 (T hs71 (T hs74 hs76))))))))), hE, bO1_0, bO1_1, bO1_2, bO1_3, bO5_0, bO5_1, bO5_2, bO5_3, hc28, b9, (by rw [htk, List.all_append, hall]; simp [hok9])⟩
      ·
       clear bO1_0 bO1_1 bO1_2 bO1_3 bO5_0 bO5_1 bO5_2 bO5_3 bO9_0 hc28 hE
       intro D80 w81 hD84 hDl85 h hmk83
       obtain ⟨hs82, hE, bO1_0, bO1_1, bO1_2, bO1_3, bO5_0, bO5_1, bO5_2, bO5_3, hc28, b9, hall⟩ := h
       rw [List.take_of_length_le (Nat.le_refl _)] at hall
       refine iqw_block ?_
       refine iqw_then ?_
       refine icw_seq ?_
       refine icw_plain ?_
       refine ipl_put rfl (by kernel_rfl) (by kernel_rfl) (sn_set (O := O9) (j := 0) (v := .bool true) (ex_store (p := .pointer (some ⟨O9, 0, none⟩)) (v := .bool true) rfl (by kernel_rfl) (by kernel_rfl) (st4 b9.1 b9.2)) b9 ?_)
       intro X86 ho hv0 hk; replace hE := ho.ext hE (T (T hs3 hs7) (Nat.le_of_eq hzO9))
       have q9 := fun (j : Nat) (v : Value) (h : BoxAt _ O1 j v) => ho.box (Nat.ne_of_gt (Nat.lt_of_lt_of_le lt4 (T hs7 (Nat.le_of_eq hzO9)))) h
       replace bO1_0 := q9 _ _ bO1_0; replace bO1_1 := q9 _ _ bO1_1; replace bO1_2 := q9 _ _ bO1_2; replace bO1_3 := q9 _ _ bO1_3; clear q9
       have q9 := fun (j : Nat) (v : Value) (h : BoxAt _ O5 j v) => ho.box (Nat.ne_of_gt (Nat.lt_of_lt_of_le lt8 (Nat.le_of_eq hzO9))) h
       replace bO5_0 := q9 _ _ bO5_0; replace bO5_1 := q9 _ _ bO5_1; replace bO5_2 := q9 _ _ bO5_2; replace bO5_3 := q9 _ _ bO5_3; clear q9; replace hc28 := ho.cell (Nat.ne_of_lt (Nat.lt_of_lt_of_le lt12 (T (T hs15 (T hs18 hs22)) hn27))) hc28; replace hmk83 := mk_turn hmk83 ho; have hs87 : w81.heap.size ≤ X86.heap.size := Nat.le_of_eq ho.size.symm; clear ho hk b9; have b9 := hv0; clear hv0
       refine ipl_nil ?_
       refine iqw_then ?_
       refine icw_ret ?_
       refine iqw_ret w.heap.size [.bool true] rfl (marksC (T (T hs3 (T hs7 (T hs11 (T hs15 (T hs18 (T hs22 hs30)))))) hD84) hmk83 (fun _ h => by cases h)) (by simp) (fun W9 hm9 => ?_)
       replace hE := hm9.ext hE (Nat.le_refl _); replace bO1_0 := hm9.box bO1_0; replace bO1_1 := hm9.box bO1_1; replace bO1_2 := hm9.box bO1_2; replace bO1_3 := hm9.box bO1_3; replace bO5_0 := hm9.box bO5_0; replace bO5_1 := hm9.box bO5_1; replace bO5_2 := hm9.box bO5_2; replace bO5_3 := hm9.box bO5_3; replace hc28 := hm9.cell hc28; replace b9 := hm9.box b9; have hs88 := hm9.size
       refine ⟨⟨⟨_, by kernel_rfl, res_ld (ld4 (b9.1))⟩, trivial⟩, ?_⟩
       have hov : Prod.overL ps qs = true := by rw [← overG_all hrd]; exact hall
       exact ⟨congrArg (fun b => Ending.returned (Value.bool b)) (show Prod.overB id ver ar ps id2 ver2 ar2 qs = true by unfold Prod.overB; rw [hb13, hb16, decide_eq_true hc19, hb20, decide_eq_true (show ver2 < ver by omega), hov]; rfl).symm, hE⟩
      ·
       clear bO1_0 bO1_1 bO1_2 bO1_3 bO5_0 bO5_1 bO5_2 bO5_3 bO9_0 hc28 hE
       intro cd9 D89 i w90 hD93 hDl94 hii h hmk92
       obtain ⟨rfl, hs91, hE, bO1_0, bO1_1, bO1_2, bO1_3, bO5_0, bO5_1, bO5_2, bO5_3, hc28, b9, hbad⟩ := h
       refine icw_ret ?_
       refine iqw_block_ret ?_
       refine iqw_then_ret ?_
       refine iqw_ret w.heap.size [.bool false] rfl (marksC (T (T hs3 (T hs7 (T hs11 (T hs15 (T hs18 (T hs22 hs30)))))) hD93) hmk92 (fun _ h => by cases h)) (by simp) (fun W9 hm9 => ?_)
       replace hE := hm9.ext hE (Nat.le_refl _); replace bO1_0 := hm9.box bO1_0; replace bO1_1 := hm9.box bO1_1; replace bO1_2 := hm9.box bO1_2; replace bO1_3 := hm9.box bO1_3; replace bO5_0 := hm9.box bO5_0; replace bO5_1 := hm9.box bO5_1; replace bO5_2 := hm9.box bO5_2; replace bO5_3 := hm9.box bO5_3; replace hc28 := hm9.cell hc28; replace b9 := hm9.box b9; have hs95 := hm9.size
       refine ⟨⟨⟨_, by kernel_rfl, res_ld (ld4 (b9.1))⟩, trivial⟩, ?_⟩
       exact ⟨congrArg (fun b => Ending.returned (Value.bool b)) (show Prod.overB id ver ar ps id2 ver2 ar2 qs = false by unfold Prod.overB; rw [hbad]; simp).symm, hE⟩
    ·
     refine ipl_step rfl (by kernel_rfl) (by kernel_rfl) (by kernel_rfl) (sn_call (f := 45) (args := #[.agg #[.slice a1 n1 c1], .agg #[.slice b1 m1 d1]]) (by kernel_rfl) ((Same_q (r := false) _ _ _ (hA) hE (hB) hE hb20).mono ?_))
     rintro e w96 ⟨rfl, hb⟩
     replace hE := hE.trans hb; replace bO1_0 := BoxAt.ext hb bO1_0; replace bO1_1 := BoxAt.ext hb bO1_1; replace bO1_2 := BoxAt.ext hb bO1_2; replace bO1_3 := BoxAt.ext hb bO1_3; replace bO5_0 := BoxAt.ext hb bO5_0; replace bO5_1 := BoxAt.ext hb bO5_1; replace bO5_2 := BoxAt.ext hb bO5_2; replace bO5_3 := BoxAt.ext hb bO5_3; replace bO9_0 := BoxAt.ext hb bO9_0; have hs97 := hb.size; clear hb
     refine ⟨_, rfl, ?_⟩
     refine ipl_take (.bool true) rfl (by kernel_rfl) (by kernel_rfl) (by kernel_rfl) (by kernel_rfl) ?_
     refine ipl_take (.bool true) rfl (by kernel_rfl) (by kernel_rfl) (by kernel_rfl) (by kernel_rfl) ?_
     refine ipl_take (.bool true) rfl (by kernel_rfl) (by kernel_rfl) (by kernel_rfl) (by kernel_rfl) ?_
     refine ipl_skip rfl (by kernel_rfl) (by kernel_rfl) (by kernel_rfl) ?_
     refine ipl_skip rfl (by kernel_rfl) (by kernel_rfl) (by kernel_rfl) ?_
     refine ipl_skip rfl (by kernel_rfl) (by kernel_rfl) (by kernel_rfl) ?_
     refine ipl_skip rfl (by kernel_rfl) (by kernel_rfl) (by kernel_rfl) ?_
     refine ipl_skip rfl (by kernel_rfl) (by kernel_rfl) (by kernel_rfl) ?_
     refine ipl_take (.bool true) rfl (by kernel_rfl) (by kernel_rfl) (by kernel_rfl) (by kernel_rfl) ?_
     refine ipl_nil ?_
     refine iqw_then ?_
     refine icw_clean [2, 3, 4, 38] (ws' := [(2, .pointer (some ⟨O1, 0, none⟩)), (3, .pointer (some ⟨O5, 0, none⟩)), (4, .pointer (some ⟨O9, 0, none⟩)), (38, .bool true)]) (by kernel_rfl) (fun L => ?_)
     refine icw_t (by kernel_rfl) ?_
     refine icw_seq ?_
     refine icw_plain ?_
     refine ipl_put rfl (by kernel_rfl) (by kernel_rfl) (sn_set (O := O9) (j := 0) (v := .bool false) (ex_store (p := .pointer (some ⟨O9, 0, none⟩)) (v := .bool false) rfl (by kernel_rfl) (by kernel_rfl) (st4 bO9_0.1 bO9_0.2)) bO9_0 ?_)
     intro X98 ho hv0 hk; replace hE := ho.ext hE (T (T hs3 hs7) (Nat.le_of_eq hzO9))
     have q9 := fun (j : Nat) (v : Value) (h : BoxAt _ O1 j v) => ho.box (Nat.ne_of_gt (Nat.lt_of_lt_of_le lt4 (T hs7 (Nat.le_of_eq hzO9)))) h
     replace bO1_0 := q9 _ _ bO1_0; replace bO1_1 := q9 _ _ bO1_1; replace bO1_2 := q9 _ _ bO1_2; replace bO1_3 := q9 _ _ bO1_3; clear q9
     have q9 := fun (j : Nat) (v : Value) (h : BoxAt _ O5 j v) => ho.box (Nat.ne_of_gt (Nat.lt_of_lt_of_le lt8 (Nat.le_of_eq hzO9))) h
     replace bO5_0 := q9 _ _ bO5_0; replace bO5_1 := q9 _ _ bO5_1; replace bO5_2 := q9 _ _ bO5_2; replace bO5_3 := q9 _ _ bO5_3; clear q9; have hs99 : w96.heap.size ≤ X98.heap.size := Nat.le_of_eq ho.size.symm; clear ho hk bO9_0; have bO9_0 := hv0; clear hv0
     refine ipl_nil ?_
     refine iqw_then ?_
     refine icw_ret ?_
     refine iqw_then_ret ?_
     refine iqw_ret0 [.bool false] rfl ⟨⟨_, by kernel_rfl, res_ld (ld4 (bO9_0.1))⟩, trivial⟩ ?_
     exact ⟨congrArg (fun b => Ending.returned (Value.bool b)) (show Prod.overB id ver ar ps id2 ver2 ar2 qs = false by unfold Prod.overB; rw [hb20]; simp).symm, hE⟩
   ·
    refine ipl_take (.bool true) rfl (by kernel_rfl) (by kernel_rfl) (by kernel_rfl) (ev_ne (show _ = Result.ok (Next.value (Value.bool ((id : Int) != (id2 : Int)))) _ from by kernel_rfl) (hc19)) ?_
    refine ipl_take (.bool true) rfl (by kernel_rfl) (by kernel_rfl) (by kernel_rfl) (by kernel_rfl) ?_
    refine ipl_take (.bool true) rfl (by kernel_rfl) (by kernel_rfl) (by kernel_rfl) (by kernel_rfl) ?_
    refine ipl_skip rfl (by kernel_rfl) (by kernel_rfl) (by kernel_rfl) ?_
    refine ipl_skip rfl (by kernel_rfl) (by kernel_rfl) (by kernel_rfl) ?_
    refine ipl_skip rfl (by kernel_rfl) (by kernel_rfl) (by kernel_rfl) ?_
    refine ipl_skip rfl (by kernel_rfl) (by kernel_rfl) (by kernel_rfl) ?_
    refine ipl_skip rfl (by kernel_rfl) (by kernel_rfl) (by kernel_rfl) ?_
    refine ipl_skip rfl (by kernel_rfl) (by kernel_rfl) (by kernel_rfl) ?_
    refine ipl_take (.bool true) rfl (by kernel_rfl) (by kernel_rfl) (by kernel_rfl) (by kernel_rfl) ?_
    refine ipl_take (.bool true) rfl (by kernel_rfl) (by kernel_rfl) (by kernel_rfl) (by kernel_rfl) ?_
    refine ipl_skip rfl (by kernel_rfl) (by kernel_rfl) (by kernel_rfl) ?_
    refine ipl_skip rfl (by kernel_rfl) (by kernel_rfl) (by kernel_rfl) ?_
    refine ipl_skip rfl (by kernel_rfl) (by kernel_rfl) (by kernel_rfl) ?_
    refine ipl_skip rfl (by kernel_rfl) (by kernel_rfl) (by kernel_rfl) ?_
    refine ipl_skip rfl (by kernel_rfl) (by kernel_rfl) (by kernel_rfl) ?_
    refine ipl_take (.bool true) rfl (by kernel_rfl) (by kernel_rfl) (by kernel_rfl) (by kernel_rfl) ?_
    refine ipl_nil ?_
    refine iqw_then ?_
    refine icw_clean [2, 3, 4, 38] (ws' := [(2, .pointer (some ⟨O1, 0, none⟩)), (3, .pointer (some ⟨O5, 0, none⟩)), (4, .pointer (some ⟨O9, 0, none⟩)), (38, .bool true)]) (by kernel_rfl) (fun L => ?_)
    refine icw_t (by kernel_rfl) ?_
    refine icw_seq ?_
    refine icw_plain ?_
    refine ipl_put rfl (by kernel_rfl) (by kernel_rfl) (sn_set (O := O9) (j := 0) (v := .bool false) (ex_store (p := .pointer (some ⟨O9, 0, none⟩)) (v := .bool false) rfl (by kernel_rfl) (by kernel_rfl) (st4 bO9_0.1 bO9_0.2)) bO9_0 ?_)
    intro X100 ho hv0 hk; replace hE := ho.ext hE (T (T hs3 hs7) (Nat.le_of_eq hzO9))
    have q9 := fun (j : Nat) (v : Value) (h : BoxAt _ O1 j v) => ho.box (Nat.ne_of_gt (Nat.lt_of_lt_of_le lt4 (T hs7 (Nat.le_of_eq hzO9)))) h
    replace bO1_0 := q9 _ _ bO1_0; replace bO1_1 := q9 _ _ bO1_1; replace bO1_2 := q9 _ _ bO1_2; replace bO1_3 := q9 _ _ bO1_3; clear q9
    have q9 := fun (j : Nat) (v : Value) (h : BoxAt _ O5 j v) => ho.box (Nat.ne_of_gt (Nat.lt_of_lt_of_le lt8 (Nat.le_of_eq hzO9))) h
    replace bO5_0 := q9 _ _ bO5_0; replace bO5_1 := q9 _ _ bO5_1; replace bO5_2 := q9 _ _ bO5_2; replace bO5_3 := q9 _ _ bO5_3; clear q9; have hs101 : w17.heap.size ≤ X100.heap.size := Nat.le_of_eq ho.size.symm; clear ho hk bO9_0; have bO9_0 := hv0; clear hv0
    refine ipl_nil ?_
    refine iqw_then ?_
    refine icw_ret ?_
    refine iqw_then_ret ?_
    refine iqw_ret0 [.bool false] rfl ⟨⟨_, by kernel_rfl, res_ld (ld4 (bO9_0.1))⟩, trivial⟩ ?_
    exact ⟨congrArg (fun b => Ending.returned (Value.bool b)) (show Prod.overB id ver ar ps id2 ver2 ar2 qs = false by unfold Prod.overB; rw [decide_eq_false hc19]; simp).symm, hE⟩
  ·
   refine ipl_step rfl (by kernel_rfl) (by kernel_rfl) (by kernel_rfl) (sn_call (f := 28) (args := #[.agg #[.int .i64 id2, .int .i64 ver2, .slice b1 m1 d1, .slice b m d]]) (by kernel_rfl) ((pValid_r (id := id2) (ver := ver2) (r := false) _ _ (by omega) (aa_q (hB)) hE (hQ) hE (hT.ext hE) hb16).mono ?_))
   rintro e w102 ⟨rfl, hb⟩
   replace hE := hE.trans hb; replace bO1_0 := BoxAt.ext hb bO1_0; replace bO1_1 := BoxAt.ext hb bO1_1; replace bO1_2 := BoxAt.ext hb bO1_2; replace bO1_3 := BoxAt.ext hb bO1_3; replace bO5_0 := BoxAt.ext hb bO5_0; replace bO5_1 := BoxAt.ext hb bO5_1; replace bO5_2 := BoxAt.ext hb bO5_2; replace bO5_3 := BoxAt.ext hb bO5_3; replace bO9_0 := BoxAt.ext hb bO9_0; have hs103 := hb.size; clear hb
   refine ⟨_, rfl, ?_⟩
   refine ipl_take (.bool true) rfl (by kernel_rfl) (by kernel_rfl) (by kernel_rfl) (by kernel_rfl) ?_
   refine ipl_take (.bool true) rfl (by kernel_rfl) (by kernel_rfl) (by kernel_rfl) (by kernel_rfl) ?_
   refine ipl_take (.bool true) rfl (by kernel_rfl) (by kernel_rfl) (by kernel_rfl) (by kernel_rfl) ?_
   refine ipl_skip rfl (by kernel_rfl) (by kernel_rfl) (by kernel_rfl) ?_
   refine ipl_skip rfl (by kernel_rfl) (by kernel_rfl) (by kernel_rfl) ?_
   refine ipl_skip rfl (by kernel_rfl) (by kernel_rfl) (by kernel_rfl) ?_
   refine ipl_skip rfl (by kernel_rfl) (by kernel_rfl) (by kernel_rfl) ?_
   refine ipl_skip rfl (by kernel_rfl) (by kernel_rfl) (by kernel_rfl) ?_
   refine ipl_take (.bool true) rfl (by kernel_rfl) (by kernel_rfl) (by kernel_rfl) (by kernel_rfl) ?_
   refine ipl_take (.bool true) rfl (by kernel_rfl) (by kernel_rfl) (by kernel_rfl) (by kernel_rfl) ?_
   refine ipl_skip rfl (by kernel_rfl) (by kernel_rfl) (by kernel_rfl) ?_
   refine ipl_skip rfl (by kernel_rfl) (by kernel_rfl) (by kernel_rfl) ?_
   refine ipl_skip rfl (by kernel_rfl) (by kernel_rfl) (by kernel_rfl) ?_
   refine ipl_skip rfl (by kernel_rfl) (by kernel_rfl) (by kernel_rfl) ?_
   refine ipl_skip rfl (by kernel_rfl) (by kernel_rfl) (by kernel_rfl) ?_
   refine ipl_skip rfl (by kernel_rfl) (by kernel_rfl) (by kernel_rfl) ?_
   refine ipl_take (.bool true) rfl (by kernel_rfl) (by kernel_rfl) (by kernel_rfl) (by kernel_rfl) ?_
   refine ipl_take (.bool true) rfl (by kernel_rfl) (by kernel_rfl) (by kernel_rfl) (by kernel_rfl) ?_
   refine ipl_skip rfl (by kernel_rfl) (by kernel_rfl) (by kernel_rfl) ?_
   refine ipl_skip rfl (by kernel_rfl) (by kernel_rfl) (by kernel_rfl) ?_
   refine ipl_skip rfl (by kernel_rfl) (by kernel_rfl) (by kernel_rfl) ?_
   refine ipl_skip rfl (by kernel_rfl) (by kernel_rfl) (by kernel_rfl) ?_
   refine ipl_skip rfl (by kernel_rfl) (by kernel_rfl) (by kernel_rfl) ?_
   refine ipl_take (.bool true) rfl (by kernel_rfl) (by kernel_rfl) (by kernel_rfl) (by kernel_rfl) ?_
   refine ipl_nil ?_
   refine iqw_then ?_
   refine icw_clean [2, 3, 4, 38] (ws' := [(2, .pointer (some ⟨O1, 0, none⟩)), (3, .pointer (some ⟨O5, 0, none⟩)), (4, .pointer (some ⟨O9, 0, none⟩)), (38, .bool true)]) (by kernel_rfl) (fun L => ?_)
   refine icw_t (by kernel_rfl) ?_
   refine icw_seq ?_
   refine icw_plain ?_
   refine ipl_put rfl (by kernel_rfl) (by kernel_rfl) (sn_set (O := O9) (j := 0) (v := .bool false) (ex_store (p := .pointer (some ⟨O9, 0, none⟩)) (v := .bool false) rfl (by kernel_rfl) (by kernel_rfl) (st4 bO9_0.1 bO9_0.2)) bO9_0 ?_)
   intro X104 ho hv0 hk; replace hE := ho.ext hE (T (T hs3 hs7) (Nat.le_of_eq hzO9))
   have q9 := fun (j : Nat) (v : Value) (h : BoxAt _ O1 j v) => ho.box (Nat.ne_of_gt (Nat.lt_of_lt_of_le lt4 (T hs7 (Nat.le_of_eq hzO9)))) h
   replace bO1_0 := q9 _ _ bO1_0; replace bO1_1 := q9 _ _ bO1_1; replace bO1_2 := q9 _ _ bO1_2; replace bO1_3 := q9 _ _ bO1_3; clear q9
   have q9 := fun (j : Nat) (v : Value) (h : BoxAt _ O5 j v) => ho.box (Nat.ne_of_gt (Nat.lt_of_lt_of_le lt8 (Nat.le_of_eq hzO9))) h
   replace bO5_0 := q9 _ _ bO5_0; replace bO5_1 := q9 _ _ bO5_1; replace bO5_2 := q9 _ _ bO5_2; replace bO5_3 := q9 _ _ bO5_3; clear q9; have hs105 : w102.heap.size ≤ X104.heap.size := Nat.le_of_eq ho.size.symm; clear ho hk bO9_0; have bO9_0 := hv0; clear hv0
   refine ipl_nil ?_
   refine iqw_then ?_
   refine icw_ret ?_
   refine iqw_then_ret ?_
   refine iqw_ret0 [.bool false] rfl ⟨⟨_, by kernel_rfl, res_ld (ld4 (bO9_0.1))⟩, trivial⟩ ?_
   exact ⟨congrArg (fun b => Ending.returned (Value.bool b)) (show Prod.overB id ver ar ps id2 ver2 ar2 qs = false by unfold Prod.overB; rw [hb16]; simp).symm, hE⟩
 ·
  refine ipl_step rfl (by kernel_rfl) (by kernel_rfl) (by kernel_rfl) (sn_call (f := 28) (args := #[.agg #[.int .i64 id, .int .i64 ver, .slice a1 n1 c1, .slice a n c]]) (by kernel_rfl) ((pValid_r (id := id) (ver := ver) (r := false) _ _ (by omega) (aa_q (hA)) hE (hP) hE (hT.ext hE) hb13).mono ?_))
  rintro e w106 ⟨rfl, hb⟩
  replace hE := hE.trans hb; replace bO1_0 := BoxAt.ext hb bO1_0; replace bO1_1 := BoxAt.ext hb bO1_1; replace bO1_2 := BoxAt.ext hb bO1_2; replace bO1_3 := BoxAt.ext hb bO1_3; replace bO5_0 := BoxAt.ext hb bO5_0; replace bO5_1 := BoxAt.ext hb bO5_1; replace bO5_2 := BoxAt.ext hb bO5_2; replace bO5_3 := BoxAt.ext hb bO5_3; replace bO9_0 := BoxAt.ext hb bO9_0; have hs107 := hb.size; clear hb
  refine ⟨_, rfl, ?_⟩
  refine ipl_take (.bool true) rfl (by kernel_rfl) (by kernel_rfl) (by kernel_rfl) (by kernel_rfl) ?_
  refine ipl_take (.bool true) rfl (by kernel_rfl) (by kernel_rfl) (by kernel_rfl) (by kernel_rfl) ?_
  refine ipl_skip rfl (by kernel_rfl) (by kernel_rfl) (by kernel_rfl) ?_
  refine ipl_skip rfl (by kernel_rfl) (by kernel_rfl) (by kernel_rfl) ?_
  refine ipl_skip rfl (by kernel_rfl) (by kernel_rfl) (by kernel_rfl) ?_
  refine ipl_take (.bool true) rfl (by kernel_rfl) (by kernel_rfl) (by kernel_rfl) (by kernel_rfl) ?_
  refine ipl_take (.bool true) rfl (by kernel_rfl) (by kernel_rfl) (by kernel_rfl) (by kernel_rfl) ?_
  refine ipl_skip rfl (by kernel_rfl) (by kernel_rfl) (by kernel_rfl) ?_
  refine ipl_skip rfl (by kernel_rfl) (by kernel_rfl) (by kernel_rfl) ?_
  refine ipl_skip rfl (by kernel_rfl) (by kernel_rfl) (by kernel_rfl) ?_
  refine ipl_skip rfl (by kernel_rfl) (by kernel_rfl) (by kernel_rfl) ?_
  refine ipl_skip rfl (by kernel_rfl) (by kernel_rfl) (by kernel_rfl) ?_
  refine ipl_take (.bool true) rfl (by kernel_rfl) (by kernel_rfl) (by kernel_rfl) (by kernel_rfl) ?_
  refine ipl_take (.bool true) rfl (by kernel_rfl) (by kernel_rfl) (by kernel_rfl) (by kernel_rfl) ?_
  refine ipl_skip rfl (by kernel_rfl) (by kernel_rfl) (by kernel_rfl) ?_
  refine ipl_skip rfl (by kernel_rfl) (by kernel_rfl) (by kernel_rfl) ?_
  refine ipl_skip rfl (by kernel_rfl) (by kernel_rfl) (by kernel_rfl) ?_
  refine ipl_skip rfl (by kernel_rfl) (by kernel_rfl) (by kernel_rfl) ?_
  refine ipl_skip rfl (by kernel_rfl) (by kernel_rfl) (by kernel_rfl) ?_
  refine ipl_skip rfl (by kernel_rfl) (by kernel_rfl) (by kernel_rfl) ?_
  refine ipl_take (.bool true) rfl (by kernel_rfl) (by kernel_rfl) (by kernel_rfl) (by kernel_rfl) ?_
  refine ipl_take (.bool true) rfl (by kernel_rfl) (by kernel_rfl) (by kernel_rfl) (by kernel_rfl) ?_
  refine ipl_skip rfl (by kernel_rfl) (by kernel_rfl) (by kernel_rfl) ?_
  refine ipl_skip rfl (by kernel_rfl) (by kernel_rfl) (by kernel_rfl) ?_
  refine ipl_skip rfl (by kernel_rfl) (by kernel_rfl) (by kernel_rfl) ?_
  refine ipl_skip rfl (by kernel_rfl) (by kernel_rfl) (by kernel_rfl) ?_
  refine ipl_skip rfl (by kernel_rfl) (by kernel_rfl) (by kernel_rfl) ?_
  refine ipl_take (.bool true) rfl (by kernel_rfl) (by kernel_rfl) (by kernel_rfl) (by kernel_rfl) ?_
  refine ipl_nil ?_
  refine iqw_then ?_
  refine icw_clean [2, 3, 4, 38] (ws' := [(2, .pointer (some ⟨O1, 0, none⟩)), (3, .pointer (some ⟨O5, 0, none⟩)), (4, .pointer (some ⟨O9, 0, none⟩)), (38, .bool true)]) (by kernel_rfl) (fun L => ?_)
  refine icw_t (by kernel_rfl) ?_
  refine icw_seq ?_
  refine icw_plain ?_
  refine ipl_put rfl (by kernel_rfl) (by kernel_rfl) (sn_set (O := O9) (j := 0) (v := .bool false) (ex_store (p := .pointer (some ⟨O9, 0, none⟩)) (v := .bool false) rfl (by kernel_rfl) (by kernel_rfl) (st4 bO9_0.1 bO9_0.2)) bO9_0 ?_)
  intro X108 ho hv0 hk; replace hE := ho.ext hE (T (T hs3 hs7) (Nat.le_of_eq hzO9))
  have q9 := fun (j : Nat) (v : Value) (h : BoxAt _ O1 j v) => ho.box (Nat.ne_of_gt (Nat.lt_of_lt_of_le lt4 (T hs7 (Nat.le_of_eq hzO9)))) h
  replace bO1_0 := q9 _ _ bO1_0; replace bO1_1 := q9 _ _ bO1_1; replace bO1_2 := q9 _ _ bO1_2; replace bO1_3 := q9 _ _ bO1_3; clear q9
  have q9 := fun (j : Nat) (v : Value) (h : BoxAt _ O5 j v) => ho.box (Nat.ne_of_gt (Nat.lt_of_lt_of_le lt8 (Nat.le_of_eq hzO9))) h
  replace bO5_0 := q9 _ _ bO5_0; replace bO5_1 := q9 _ _ bO5_1; replace bO5_2 := q9 _ _ bO5_2; replace bO5_3 := q9 _ _ bO5_3; clear q9; have hs109 : w106.heap.size ≤ X108.heap.size := Nat.le_of_eq ho.size.symm; clear ho hk bO9_0; have bO9_0 := hv0; clear hv0
  refine ipl_nil ?_
  refine iqw_then ?_
  refine icw_ret ?_
  refine iqw_then_ret ?_
  refine iqw_ret0 [.bool false] rfl ⟨⟨_, by kernel_rfl, res_ld (ld4 (bO9_0.1))⟩, trivial⟩ ?_
  exact ⟨congrArg (fun b => Ending.returned (Value.bool b)) (show Prod.overB id ver ar ps id2 ver2 ar2 qs = false by unfold Prod.overB; rw [hb13]; simp).symm, hE⟩

end Go.Proofs.YtajdohcgjgknmaaDoor

/- 'pick': an index out of an arbitrary integer. Plain mathematics. -/
namespace Go.Proofs.YtajdohcgjgknmaaDoor

/-- The bounds of an int. -/
def IsI (c : Int) : Prop := -9223372036854775808 ≤ c ∧ c ≤ 9223372036854775807
def pickF (c n : Int) : Int := (if c < 0 then -(c + 1) else c) % n
theorem pickF_bd {c n : Int} (h : 0 < n) : 0 ≤ pickF c n ∧ pickF c n < n := ⟨Int.emod_nonneg _ (by omega), Int.emod_lt_of_pos _ h⟩
theorem pickF_neg {c n : Int} (h : c < 0) : pickF c n = (-(c + 1)) % n := by rw [pickF, if_pos h]
theorem pickF_pos {c n : Int} (h : 0 ≤ c) : pickF c n = c % n := by rw [pickF, if_neg (by omega)]

end Go.Proofs.YtajdohcgjgknmaaDoor

/- Contracts of the reference of package globe: Empty, put, Same. -/
namespace Go.Proofs.YtajdohcgjgknmaaDoor
open Go.RowKit

theorem rEmpty_c (w : World) : Calls Tryd.prog 29 #[] w (RetA w Globe.zeroL) := by
 have hmk := make24
 go_enter Tryd.func29, Tryd.ntmps29
 go_wp2
 refine bodyPost_ret (v := .agg #[.slice (some ⟨w.heap.size + 1, 0, none⟩) 24 24]) (by simp [results, Tryd.results29, go_sem]) rfl ⟨w.heap.size + 1, rfl, by omega, ?_, by (repeat' (first | (with_reducible assumption) | (with_reducible exact Ext.refl _) | (with_reducible refine Ext.alloc ?_ _) | (with_reducible refine Ext.drew ?_) | (with_reducible refine Ext.drewN ?_ _) | (with_reducible refine Ext.setCell ?_ ?_ _) | (with_reducible refine Ext.trans ?_ (by assumption)) | go_size))⟩
 have := RowsAt.new (w.alloc (.cells #[.slice (some ⟨w.heap.size + 1, 0, none⟩) 24 24] 26)) Globe.zeroL 3 rfl
 rwa [World.size_alloc] at this

theorem ne_of_at9 {l1 l2 : List Int} {k : Nat} (h : Globe.nth l1 k ≠ Globe.nth l2 k) : decide (l1 = l2) = false := by
 rw [decide_eq_false_iff_not]; intro e; exact h (by rw [e])
set_option maxHeartbeats 1000000 in
theorem rSame_c {w1 w2 : World} {a1 : Option Addr} {l1 : List Int} {n1 : Nat} (c1 : Nat) {v1 : Bool} {a2 : Option Addr} {l2 : List Int} {n2 : Nat} (c2 : Nat) {v2 : Bool} (w : World) (h1 : AA w1 a1 l1 n1 v1) (e1 : Ext w1 w) (h2 : AA w2 a2 l2 n2 v2) (e2 : Ext w2 w) :
    Calls Tryd.prog 25 #[.agg #[.slice a1 n1 c1], .agg #[.slice a2 n2 c2]] w fun e w' => e = .returned (.bool (decide (l1 = l2))) ∧ Ext w w' := by
  replace h1 := h1.ext e1; replace h2 := h2.ext e2; clear e1 e2
  obtain ⟨i1, hn1, hl1, -⟩ := h1
  obtain ⟨i2, hn2, hl2, -⟩ := h2
  by_cases hne : n1 = n2
  · subst hne
    rcases Nat.eq_zero_or_pos n1 with h0 | h0
    · subst h0
      obtain rfl := List.length_eq_zero_iff.1 hn1
      obtain rfl := List.length_eq_zero_iff.1 hn2
      clear i1 i2 hn1 hn2 hl1 hl2
      go_enter Tryd.func25, Tryd.ntmps25
      go_wp2_with fail
      refine wp_loop_rounds 1 ?_
      rw [rounds_succ]
      go_wp2_with fail
      go_ret
      exact ⟨rfl, by (repeat' (first | (with_reducible assumption) | (with_reducible exact Ext.refl _) | (with_reducible refine Ext.alloc ?_ _) | (with_reducible refine Ext.drew ?_) | (with_reducible refine Ext.drewN ?_ _) | (with_reducible refine Ext.setCell ?_ ?_ _) | (with_reducible refine Ext.trans ?_ (by assumption)) | go_size))⟩
    · have e1 : ∃ b off, a1 = some ⟨b, off, none⟩ ∧ ∀ i, i < n1 → w.cell? ⟨b, off + i, none⟩ = some (.int .i64 (Globe.nth l1 i)) := by
        rcases i1 with rfl | ⟨b, off, rfl, h⟩
        · simp at hn1; omega
        · exact ⟨b, off, rfl, fun i hi => h i (by omega)⟩
      have e2 : ∃ b off, a2 = some ⟨b, off, none⟩ ∧ ∀ i, i < n1 → w.cell? ⟨b, off + i, none⟩ = some (.int .i64 (Globe.nth l2 i)) := by
        rcases i2 with rfl | ⟨b, off, rfl, h⟩
        · simp at hn2; omega
        · exact ⟨b, off, rfl, fun i hi => h i (by omega)⟩
      obtain ⟨b1, o1, rfl, r1⟩ := e1
      obtain ⟨b2, o2, rfl, r2⟩ := e2
      have R1 := Lib.hid r1; clear r1
      have R2 := Lib.hid r2; clear r2
      have Hn1 := Lib.hid hn1; clear hn1
      have Hn2 := Lib.hid hn2; clear hn2
      clear i1 i2 hl2
      go_enter Tryd.func25, Tryd.ntmps25
      go_wp2_with fail
      refine wp_name (fun V => Ext w V ∧ V.cell? ⟨w.heap.size, 0, none⟩ = some (.slice (some ⟨b1, o1, none⟩) n1 c1) ∧ V.cell? ⟨w.heap.size + 1, 0, none⟩ = some (.slice (some ⟨b2, o2, none⟩) n1 c2)) ⟨by (repeat' (first | (with_reducible assumption) | (with_reducible exact Ext.refl _) | (with_reducible refine Ext.alloc ?_ _) | (with_reducible refine Ext.drew ?_) | (with_reducible refine Ext.drewN ?_ _) | (with_reducible refine Ext.setCell ?_ ?_ _) | (with_reducible refine Ext.trans ?_ (by assumption)) | go_size)), by simp [go_sem], by simp [go_sem]⟩ ?_
      rintro V ⟨hV, k1, k2⟩
      go_loopw [5] (fun p wr => ∃ k : Nat, k ≤ n1 ∧ p = .int .i64 k ∧ Hid (∀ j, j < k → Globe.nth l1 j = Globe.nth l2 j) ∧ Ext V wr) (fun p _ => n1 - (intOf p).toNat)
      case atStart => exact ⟨0, by omega, rfl, fun j hj => by omega, Ext.refl _⟩
      case round =>
        obtain ⟨k, hk, rfl, Hp, hE⟩ := hrel
        replace k1 := hE.cell k1; replace k2 := hE.cell k2
        by_cases hlt : k < n1
        · have d1 : wr.cell? ⟨b1, o1 + k, none⟩ = some (.int .i64 (Globe.nth l1 k)) := hE.cell (hV.cell (R1.out k hlt))
          have d2 : wr.cell? ⟨b2, o2 + k, none⟩ = some (.int .i64 (Globe.nth l2 k)) := hE.cell (hV.cell (R2.out k hlt))
          have kk0 : (0 : Int) ≤ (k : Int) := by omega
          have kk1 : (k : Int) < (n1 : Int) := by omega
          generalize hx : Globe.nth l1 k = x at *
          generalize hy : Globe.nth l2 k = y at *
          have Hx := Lib.hid hx; clear hx
          have Hy := Lib.hid hy; clear hy
          by_cases hxy : x = y
          · subst hxy
            go_wp2_with fail
            go_quiet (fail)
            go_wp2_with fail
            go_roundw
            case rel => exact ⟨k + 1, by omega, by go_num, fun j hj => by
              rcases Nat.lt_or_ge j k with h | h
              · exact Hp.out j h
              · rw [show j = k by omega, Hx.out, Hy.out], by (repeat' (first | (with_reducible assumption) | (with_reducible exact Ext.refl _) | (with_reducible refine Ext.alloc ?_ _) | (with_reducible refine Ext.drew ?_) | (with_reducible refine Ext.drewN ?_ _) | (with_reducible refine Ext.setCell ?_ ?_ _) | (with_reducible refine Ext.trans ?_ (by assumption)) | go_size))⟩
            case measure => simp [intOf]; omega
          · go_wp2_with fail
            go_quiet (fail)
            go_wp2_with fail
            go_ret
            exact ⟨ret_bool (ne_of_at9 (k := k) (by rw [Hx.out, Hy.out]; exact hxy)).symm, by (repeat' (first | (with_reducible assumption) | (with_reducible exact Ext.refl _) | (with_reducible refine Ext.alloc ?_ _) | (with_reducible refine Ext.drew ?_) | (with_reducible refine Ext.drewN ?_ _) | (with_reducible refine Ext.setCell ?_ ?_ _) | (with_reducible refine Ext.trans ?_ (by assumption)) | go_size))⟩
        · obtain rfl : k = n1 := by omega
          go_wp2_with fail
          go_ret
          exact ⟨ret_bool (by rw [eq_comm, decide_eq_true_eq]; exact Globe.ext_nth (by rw [Hn1.out, Hn2.out]) fun j hj => Hp.out j (by rw [← Hn1.out]; exact hj)), by (repeat' (first | (with_reducible assumption) | (with_reducible exact Ext.refl _) | (with_reducible refine Ext.alloc ?_ _) | (with_reducible refine Ext.drew ?_) | (with_reducible refine Ext.drewN ?_ _) | (with_reducible refine Ext.setCell ?_ ?_ _) | (with_reducible refine Ext.trans ?_ (by assumption)) | go_size))⟩
  · have hd : decide (l1 = l2) = false := by
      rw [decide_eq_false_iff_not]; intro e; subst e; exact hne (by omega)
    have hni : ¬ (n1 : Int) = (n2 : Int) := by omega
    have Hd := Lib.hid hd; clear hd
    clear i1 i2 hn1 hn2
    go_enter Tryd.func25, Tryd.ntmps25
    go_wp2_with fail
    go_ret
    exact ⟨ret_bool (by rw [Hd.out]), by (repeat' (first | (with_reducible assumption) | (with_reducible exact Ext.refl _) | (with_reducible refine Ext.alloc ?_ _) | (with_reducible refine Ext.drew ?_) | (with_reducible refine Ext.drewN ?_ _) | (with_reducible refine Ext.setCell ?_ ?_ _) | (with_reducible refine Ext.trans ?_ (by assumption)) | go_size))⟩

end Go.Proofs.YtajdohcgjgknmaaDoor

/- The reference of chapter 31: pick, Area. -/
namespace Go.Proofs.YtajdohcgjgknmaaDoor
open Go.RowKit
theorem rpick31_c (c n : Int) (w : World) (hc : IsI c) (h0 : 0 < n) (h1 : n ≤ 100000000) : Calls Tryd.prog 30 #[.int .i64 c, .int .i64 n] w fun e w' => e = .returned (.int .i64 (pickF c n)) ∧ w = w' := by
  obtain ⟨h2, h3⟩ := hc
  by_cases h : c < 0
  · go_enter Tryd.func30, Tryd.ntmps30
    go_wp2
    go_ret
    exact ⟨ret_int (by rw [pickF_neg h, ← Int.neg_tmod, Int.tmod_eq_emod_of_nonneg (by omega)]), rfl⟩
  · have h' : 0 ≤ c := by omega
    go_enter Tryd.func30, Tryd.ntmps30
    go_wp2
    go_ret
    exact ⟨ret_int (by rw [pickF_pos h']), rfl⟩
theorem rpick31N_c (c : Int) (n : Nat) (w : World) (hc : IsI c) (h0 : 0 < n) (h1 : n ≤ 100000000) : Calls Tryd.prog 30 #[.int .i64 c, .int .i64 n] w fun e w' => ∃ k : Nat, e = .returned (.int .i64 k) ∧ k < n ∧ pickF c n = (k : Int) ∧ w = w' :=
 (rpick31_c c n w hc (by omega) (by omega)).mono fun e w' ⟨he, hw⟩ => by
  have hb := pickF_bd (c := c) (n := (n : Int)) (by omega)
  obtain ⟨k, hk⟩ : ∃ k : Nat, pickF c n = (k : Int) := ⟨(pickF c n).toNat, by omega⟩
  exact ⟨k, by rw [he, hk], by omega, hk, hw⟩
/-- The slice at a (n elements) reads as rows of four ints. -/
def QAt (w : World) (a : Option Addr) (n : Nat) (q : Nat → Nat → Int) : Prop :=
 n = 0 ∨ ∃ b off, a = some ⟨b, off, none⟩ ∧ ∀ i, i < n → ∀ j, j < 4 → w.cell? ⟨b, off + i * 4 + j, none⟩ = some (.int .i64 (q i j)) ∧ IsI (q i j)
theorem QAt.ext {w w' : World} {a : Option Addr} {n : Nat} {q : Nat → Nat → Int} (h : QAt w a n q) (hE : Ext w w') : QAt w' a n q :=
 h.imp id fun ⟨b, off, ha, hc⟩ => ⟨b, off, ha, fun i hi j hj => ⟨hE.cell (hc i hi j hj).1, (hc i hi j hj).2⟩⟩
def sh (q : Nat → Nat → Int) (k : Nat) : Nat → Nat → Int := fun i j => q (k + i) j
theorem QAt.sub {w : World} {b off n : Nat} {q : Nat → Nat → Int} (h : ∀ i, i < n → ∀ j, j < 4 → w.cell? ⟨b, off + i * 4 + j, none⟩ = some (.int .i64 (q i j)) ∧ IsI (q i j)) {i m : Nat} (hm : i + m ≤ n) : QAt w (some ⟨b, off + i * 4, none⟩) m (sh q i) :=
 .inr ⟨b, off + i * 4, rfl, fun r hr j hj => by
  have := h (i + r) (by omega) j hj
  rw [show off + (i + r) * 4 + j = off + i * 4 + r * 4 + j by omega] at this
  exact this⟩
/-- In the midst of Area: the area's own block B, its box O. -/
def MkA (w : World) (O B : Nat) (wr : World) : Prop :=
 (∃ L, Globe.validL L = true ∧ RowsAt wr B L) ∧ wr.cell? ⟨O, 0, none⟩ = some (.slice (some ⟨B, 0, none⟩) 24 24) ∧ BoxAt wr w.heap.size 0 (.slice none 0 0) ∧ Ext w wr
def RetAr (w : World) (e : Ending) (w' : World) : Prop :=
 ∃ (B : Nat) (L : List Int), e = .returned (.agg #[.slice (some ⟨B, 0, none⟩) 24 24]) ∧ w.heap.size ≤ B ∧ Globe.validL L = true ∧ RowsAt w' B L ∧ Ext w w'

set_option maxRecDepth 100000 in
set_option maxHeartbeats 8000000 in
theorem Area_c {w0 : World} {a : Option Addr} {n : Nat} (c : Nat) {q : Nat → Nat → Int} (w : World) (h : QAt w0 a n q) (hE0 : Ext w0 w) (hn : n ≤ 9223372036854775807) :
    Calls Tryd.prog 9 #[.slice a n c] w (RetAr w) := by
  have H := Lib.hid (h.ext hE0); clear h hE0
  go_enter Tryd.func9, Tryd.ntmps9
  go_wp2_with (go_at_call 29; refine (rEmpty_c _).mono ?_; rintro e w2 ⟨B, rfl, hB, hr, hb2⟩)
  obtain ⟨O, hO⟩ : ∃ O, O = w2.heap.size := ⟨_, rfl⟩
  have hBO : B < O := by have := hr.lt; omega
  have hwB : w.heap.size < B := by simp at hB; omega
  refine wp_name (fun V => MkA w O B V) ⟨⟨_, (by decide : Globe.validL Globe.zeroL = true), ?_⟩, ?_, ?_, ?_⟩ ?_
  · exact hr.ext (by (repeat' (first | (with_reducible assumption) | (with_reducible exact Ext.refl _) | (with_reducible refine Ext.alloc ?_ _) | (with_reducible refine Ext.drew ?_) | (with_reducible refine Ext.drewN ?_ _) | (with_reducible refine Ext.setCell ?_ ?_ _) | (with_reducible refine Ext.trans ?_ (by assumption)) | go_size)))
  · rw [hO]; simp [go_sem]
  · (repeat' (first | (with_reducible assumption) | (exact ⟨by simp [go_sem], by simp [go_sem]⟩) | (with_reducible refine BoxAt.ext (Ext.alloc (Ext.refl _) _) ?_) | (with_reducible refine BoxAt.ext (by with_reducible assumption) ?_)))
  · (repeat' (first | (with_reducible assumption) | (with_reducible exact Ext.refl _) | (with_reducible refine Ext.alloc ?_ _) | (with_reducible refine Ext.drew ?_) | (with_reducible refine Ext.drewN ?_ _) | (with_reducible refine Ext.setCell ?_ ?_ _) | (with_reducible refine Ext.trans ?_ (by assumption)) | go_size))
  intro V hF
  rw [← hO]
  clear hO hr hb2 hB
  go_loopw [4] (fun p wr => ∃ i : Nat, i ≤ n ∧ i ≤ 3 ∧ p = .int .i64 i ∧ MkA w O B wr) (fun p _ => 3 - (intOf p).toNat)
  case atStart => exact ⟨0, by omega, by omega, rfl, hF⟩
  case round =>
    clear hF
    obtain ⟨i, hi, hi3, rfl, hF⟩ := hrel
    by_cases hlt : i < n ∧ i < 3
    · obtain ⟨hl1, hl2⟩ := hlt
      obtain ⟨b, off, rfl, hq⟩ : ∃ b off, a = some ⟨b, off, none⟩ ∧ ∀ i, i < n → ∀ j, j < 4 → w.cell? ⟨b, off + i * 4 + j, none⟩ = some (.int .i64 (q i j)) ∧ IsI (q i j) := H.out.resolve_left (by omega)
      have pq0 : w.cell? ⟨b, off + i * 4, none⟩ = some (.int .i64 (q i 0)) := (hq i hl1 0 (by omega)).1
      have pq1 := (hq i hl1 1 (by omega)).1
      have pq2 := (hq i hl1 2 (by omega)).1
      have pq3 := (hq i hl1 3 (by omega)).1
      have I0 := Lib.hid (hq i hl1 0 (by omega)).2
      have I1 := Lib.hid (hq i hl1 1 (by omega)).2
      have I2 := Lib.hid (hq i hl1 2 (by omega)).2
      have I3 := Lib.hid (hq i hl1 3 (by omega)).2
      clear hq
      have hbl : b < w.heap.size := World.block_lt_of_cell? w _ pq0
      have i0 : (0 : Int) ≤ (i : Int) := by omega
      have i1 : (i : Int) < (n : Int) := by omega
      have i2 : (i : Int) < 3 := by omega
      obtain ⟨h0, h1⟩ := @pickF_bd (q i 3) 3 (by omega)
      obtain ⟨g0, g1⟩ := @pickF_bd (q i 2) 5 (by omega)
      obtain ⟨y0, y1⟩ := @pickF_bd (q i 1) 4 (by omega)
      obtain ⟨x0, x1⟩ := @pickF_bd (q i 0) 7 (by omega)
      obtain ⟨wo, rfl⟩ : ∃ wo : World, wo = wr := ⟨_, rfl⟩
      go_wp2_with fail
      go_loopw [5] (fun p wr => ∃ y : Nat, (y : Int) ≤ pickF (q i 3) 3 + 1 ∧ p = .int .i64 y ∧ MkA w O B wr) (fun p _ => 4 - (intOf p).toNat)
      case atStart => exact ⟨0, by omega, rfl, hF⟩
      case round =>
        clear hF
        obtain ⟨y, hy, rfl, hF⟩ := hrel
        have hE := hF.2.2.2
        have q2 := hE.cell pq2
        have q3 := hE.cell pq3
        by_cases hly : (y : Int) ≤ pickF (q i 3) 3
        · go_wp2_with (go_at_call 30; refine (rpick31_c _ _ _ I3.out (by omega) (by omega)).mono ?_; rintro e w' ⟨rfl, rfl⟩)
          obtain ⟨wo2, rfl⟩ : ∃ wo2 : World, wo2 = wr := ⟨_, rfl⟩
          clear q2 q3
          go_loopw [6] (fun p wr => ∃ k : Nat, (k : Int) ≤ pickF (q i 2) 5 + 1 ∧ p = .int .i64 k ∧ MkA w O B wr) (fun p _ => 6 - (intOf p).toNat)
          case atStart => exact ⟨0, by omega, rfl, hF⟩
          case round =>
            clear hF hE
            obtain ⟨k, hk, rfl, hF⟩ := hrel
            have hE := hF.2.2.2
            have q0 := hE.cell pq0
            have q1 := hE.cell pq1
            have q2 := hE.cell pq2
            by_cases hlk : (k : Int) ≤ pickF (q i 2) 5
            · go_wp2_with (go_at_call 30; refine (rpick31_c _ _ _ (by first | exact I1.out | exact I2.out) (by omega) (by omega)).mono ?_; rintro e w' ⟨rfl, rfl⟩)
              obtain ⟨C, hC⟩ : ∃ C : Nat, pickF (q i 0) 7 + (k : Int) = (C : Int) := ⟨(pickF (q i 0) 7 + (k : Int)).toNat, by omega⟩
              obtain ⟨Y, hY⟩ : ∃ Y : Nat, pickF (q i 1) 4 + (y : Int) = (Y : Int) := ⟨(pickF (q i 1) 4 + (y : Int)).toNat, by omega⟩
              have hC2 : IntKind.i64.wrap (pickF (q i 0) 7 + (k : Int)) = (C : Int) := by rw [IntKind.wrap_i64]; omega
              have hY2 : IntKind.i64.wrap (pickF (q i 1) 4 + (y : Int)) = (Y : Int) := by rw [IntKind.wrap_i64]; omega
              have hC48 : C < 48 := by omega
              have hY24 : Y < 24 := by omega
              try rw [hY] at *
              have KC := Lib.hid hC2
              have KY := Lib.hid hY2
              clear hC2 hY2 hC hY
              obtain ⟨⟨L, hvl, hr⟩, cO, b2, hE2⟩ := hF
              have hR := Globe.rowN_lt hvl Y
              have d3 : wr.cell? ⟨B, Y, none⟩ = some (.int .i64 (Globe.rowN L Y : Nat)) := by rw [← Globe.rowN_cast hvl]; exact hr.cell hY24
              have d4 := hr.free hY24
              have hbB : b ≠ B := by omega
              have hOB : O ≠ B := by omega
              obtain ⟨s0, s1, s2⟩ := p2_shl (n := C) (by omega)
              have s3 : bits .or .i64 (Globe.rowN L Y : Nat) (p2 C : Nat) = ((Globe.rowN L Y ||| p2 C : Nat) : Int) := or_i64 _ _ (by omega) (by omega)
              have z0 : (0 : Int) ≤ (Y : Int) := by omega
              have z1 : (Y : Int) < 24 := by omega
              have c0 : (0 : Int) ≤ (C : Int) := by omega
              have HV := Lib.hid (show Globe.validL (L.set Y ((Globe.rowN L Y ||| p2 C : Nat) : Int)) = true from Globe.valid_put hvl hC48)
              clear hvl s1 s2 hR
              have Hr := Lib.hid hr; clear hr
              have HE2 := Lib.hid hE2; clear hE2
              generalize Globe.rowN L Y ||| p2 C = RO at *
              generalize Globe.rowN L Y = R0 at *
              clear pq0 pq1 pq2 pq3 q2 hE
              refine wg_begin [(some 47, [3], []), (some 48, [47], [0]), (some 49, [7], []), (some 50, [3], []), (some 51, [50], [3]), (some 52, [7], []), (some 53, [51, 52], [4, 5]), (some 54, [53], [6]), (some 55, [0], []), (some 56, [4], []), (some 57, [55, 56], [8, 9]), (some 58, [57], [10]), (some 59, [58], [11]), (some 60, [59], [12]), (some 61, [6], []), (some 62, [60, 61], [13, 14]), (some 63, [62], [15]), (some 64, [54, 63], [7, 16]), (some 65, [48, 49], [1, 2, 0, 1, 2, 3, 4, 5, 6, 7, 8, 9, 10, 11, 12, 13, 14, 15, 16, 17]), (none, [65, 64], [18, 17, 13, 0, 1, 2, 3, 4, 5, 6, 7, 8, 9, 10, 11, 12, 13, 14, 15, 16, 17])] (fun w' => w'.cell? ⟨O, 0, none⟩ = some (.slice (some ⟨B, 0, none⟩) 24 24) ∧ w'.cell? ⟨b, off + i * 4, none⟩ = some (.int .i64 (q i 0))) (by kernel_rfl) (by kernel_rfl) (by kernel_rfl) (by kernel_rfl) (by intro c d v a w h; cases d <;> first | exact h | (exact nomatch h.1) | (dsimp +zetaDelta only [Exit.then, Exit.inBlock] at h ⊢; exact h)) (⟨cO, q0⟩) (fun ops Q L hL hR hK hHeld => ?_); replace hL := Lib.hid hL; have hW1 := @evalW_tmp; have hW2 := @evalW_const; have hW3 := @evalW_func; have hW4 := @look_cons; have hW5 := @look_nil
              have r3 := wg_read hL.out 3 rfl
              have r7 := wg_read hL.out 7 rfl
              have r0 := wg_read hL.out 0 rfl
              have r4 := wg_read hL.out 4 rfl
              have r6 := wg_read hL.out 6 rfl
              (refine wg_take 0 (v := ?_) hR rfl (by kernel_rfl) (by kernel_rfl) ?_ (by with_reducible assumption) ?_; rotate_left; (focus (intro w hSw; (try dsimp only at hSw); go_simp; (try with_reducible rfl))); (dsimp only [putW]))
              (refine wg_take 1 (v := ?_) hR rfl (by kernel_rfl) (by kernel_rfl) ?_ (by with_reducible assumption) ?_; rotate_left; (focus (intro w hSw; (try dsimp only at hSw); go_simp; (try with_reducible rfl))); (dsimp only [putW]))
              (refine wg_take 2 (v := ?_) hR rfl (by kernel_rfl) (by kernel_rfl) ?_ (by with_reducible assumption) ?_; rotate_left; (focus (intro w hSw; (try dsimp only at hSw); go_simp; (try with_reducible rfl))); (dsimp only [putW]))
              (refine wg_take 3 (v := ?_) hR rfl (by kernel_rfl) (by kernel_rfl) ?_ (by with_reducible assumption) ?_; rotate_left; (focus (intro w hSw; (try dsimp only at hSw); go_simp; (try with_reducible rfl))); (dsimp only [putW]))
              (refine wg_take 4 (v := ?_) hR rfl (by kernel_rfl) (by kernel_rfl) ?_ (by with_reducible assumption) ?_; rotate_left; (focus (intro w hSw; (try dsimp only at hSw); go_simp; (try with_reducible rfl))); (dsimp only [putW]))
              (refine wg_take 5 (v := ?_) hR rfl (by kernel_rfl) (by kernel_rfl) ?_ (by with_reducible assumption) ?_; rotate_left; (focus (intro w hSw; (try dsimp only at hSw); go_simp; (try with_reducible rfl))); (dsimp only [putW]))
              (refine wg_take 6 (v := ?_) hR rfl (by kernel_rfl) (by kernel_rfl) ?_ (by with_reducible assumption) ?_; rotate_left; (focus (intro w hSw; (try dsimp only at hSw); go_simp; (try with_reducible rfl))); (dsimp only [putW]))
              (refine wg_take 8 (v := ?_) hR rfl (by kernel_rfl) (by kernel_rfl) ?_ (by with_reducible assumption) ?_; rotate_left; (focus (intro w hSw; (try dsimp only at hSw); go_simp; (try with_reducible rfl))); (dsimp only [putW]))
              (refine wg_take 9 (v := ?_) hR rfl (by kernel_rfl) (by kernel_rfl) ?_ (by with_reducible assumption) ?_; rotate_left; (focus (intro w hSw; (try dsimp only at hSw); go_simp; (try with_reducible rfl))); (dsimp only [putW]))
              (refine wg_take 10 (v := ?_) hR rfl (by kernel_rfl) (by kernel_rfl) ?_ (by with_reducible assumption) ?_; rotate_left; (focus (intro w hSw; (try dsimp only at hSw); go_simp; (try with_reducible rfl))); (dsimp only [putW]))
              (refine wg_take 11 (v := ?_) hR rfl (by kernel_rfl) (by kernel_rfl) ?_ (by with_reducible assumption) ?_; rotate_left; (focus (intro w hSw; (try dsimp only at hSw); go_simp; (try with_reducible rfl))); (dsimp only [putW]))
              (refine wg_take 12 (v := ?_) hR rfl (by kernel_rfl) (by kernel_rfl) ?_ (by with_reducible assumption) ?_; rotate_left; (focus (intro w hSw; (try dsimp only at hSw); go_simp; (try with_reducible rfl))); (dsimp only [putW]))
              (refine wg_take 14 (v := ?_) hR rfl (by kernel_rfl) (by kernel_rfl) ?_ (by with_reducible assumption) ?_; rotate_left; (focus (intro w hSw; (try dsimp only at hSw); go_simp; (try with_reducible rfl))); (dsimp only [putW]))
              refine wg_two 7 13 hR rfl rfl (by kernel_rfl) (by kernel_rfl) (by kernel_rfl) (by kernel_rfl) ?_ ?_
              · (refine wg_eff (v := ?_) (w' := ?_) ?_ ?_ ?_; rotate_left; rotate_left; (focus (go_simp; first | done | (with_reducible rfl) | (refine ⟨?_, ?_⟩ <;> with_reducible rfl))); (focus (exact hHeld)); intro hHeld; (dsimp only [putW]))
                (refine wg_step 13 hR rfl (by kernel_rfl) (by kernel_rfl) ?_ (by kernel_rfl); refine wg_call (f := 30) (args := ?_) ?_ ?_; rotate_left; (focus (go_simp; first | done | (with_reducible rfl) | (refine ⟨?_, ?_⟩ <;> with_reducible rfl))); (go_at_call 30; refine (rpick31_c _ _ _ I0.out (by omega) (by omega)).mono ?_; rintro e w' ⟨rfl, rfl⟩); refine ⟨_, rfl, hHeld, fun hHeld => ?_⟩; (dsimp only [putW]))
                (refine wg_take 15 (v := ?_) hR rfl (by kernel_rfl) (by kernel_rfl) ?_ (by with_reducible assumption) ?_; rotate_left; (focus (intro w hSw; (try dsimp only at hSw); have k0 := KC.out; go_simp; (try with_reducible rfl))); (dsimp only [putW]))
                (refine wg_take 16 (v := ?_) hR rfl (by kernel_rfl) (by kernel_rfl) ?_ (by with_reducible assumption) ?_; rotate_left; (focus (intro w hSw; (try dsimp only at hSw); go_simp; (try with_reducible rfl))); (dsimp only [putW]))
                (refine wg_take 17 (v := ?_) hR rfl (by kernel_rfl) (by kernel_rfl) ?_ (by with_reducible assumption) ?_; rotate_left; (focus (intro w hSw; (try dsimp only at hSw); go_simp; (try with_reducible rfl))); (dsimp only [putW]))
                (refine wg_take 18 (v := ?_) hR rfl (by kernel_rfl) (by kernel_rfl) ?_ (by with_reducible assumption) ?_; rotate_left; (focus (intro w hSw; (try dsimp only at hSw); go_simp; (try with_reducible rfl))); (dsimp only [putW]))
                (refine wg_step 19 hR rfl (by kernel_rfl) (by kernel_rfl) ?_ (by kernel_rfl); refine wg_skp (w' := ?_) ?_ ?_ ?_; rotate_left; (focus (go_simp; first | done | (with_reducible rfl))); (focus (exact ⟨(World.cell?_setCell_other _ _ _ _ (fun e => hOB (congrArg Addr.block e).symm)).trans hHeld.1, (World.cell?_setCell_other _ _ _ _ (fun e => hbB (congrArg Addr.block e).symm)).trans hHeld.2⟩)); intro hHeld; (dsimp only [putW]))
                refine wg_fin hR hK [(47, 18), (0, 17), (0, 16), (0, 15), (0, 14), (0, 13), (0, 12), (0, 5), (0, 11), (0, 10), (0, 9), (0, 8), (0, 7), (0, 4), (0, 6), (0, 3), (0, 2), (0, 1), (0, 0)] (by kernel_rfl) (by kernel_rfl) (by dsimp only [mg, gsOf, valAt]) ?_; clear hW1 hW2 hW3 hW4 hW5 hR hK hL
                clear r3; clear r7; clear r0; clear r4; clear r6
                go_wp2
                go_roundw
                case rel => exact ⟨k + 1, by omega, by go_num, ⟨_, HV.out, (Hr.out.drew).set hY24 _⟩, hHeld.1, b2.drew.other (p := ⟨B, Y, none⟩) (by show B ≠ _; omega) _, Ext.setCell (Ext.drew HE2.out) (p := ⟨B, Y, none⟩) (by show _ ≤ B; omega) _⟩
                case measure => simp [intOf]; omega
              · (refine wg_call (f := 30) (args := ?_) ?_ ?_; rotate_left; (focus (go_simp; first | done | (with_reducible rfl) | (refine ⟨?_, ?_⟩ <;> with_reducible rfl))); (go_at_call 30; refine (rpick31_c _ _ _ I0.out (by omega) (by omega)).mono ?_; rintro e w' ⟨rfl, rfl⟩); refine ⟨_, rfl, hHeld, fun hHeld => ?_⟩; (dsimp only [putW]))
                (refine wg_take 15 (v := ?_) hR rfl (by kernel_rfl) (by kernel_rfl) ?_ (by with_reducible assumption) ?_; rotate_left; (focus (intro w hSw; (try dsimp only at hSw); have k0 := KC.out; go_simp; (try with_reducible rfl))); (dsimp only [putW]))
                (refine wg_take 16 (v := ?_) hR rfl (by kernel_rfl) (by kernel_rfl) ?_ (by with_reducible assumption) ?_; rotate_left; (focus (intro w hSw; (try dsimp only at hSw); go_simp; (try with_reducible rfl))); (dsimp only [putW]))
                (refine wg_step 7 hR rfl (by kernel_rfl) (by kernel_rfl) ?_ (by kernel_rfl); refine wg_eff (v := ?_) (w' := ?_) ?_ ?_ ?_; rotate_left; rotate_left; (focus (go_simp; first | done | (with_reducible rfl) | (refine ⟨?_, ?_⟩ <;> with_reducible rfl))); (focus (exact hHeld)); intro hHeld; (dsimp only [putW]))
                (refine wg_take 17 (v := ?_) hR rfl (by kernel_rfl) (by kernel_rfl) ?_ (by with_reducible assumption) ?_; rotate_left; (focus (intro w hSw; (try dsimp only at hSw); go_simp; (try with_reducible rfl))); (dsimp only [putW]))
                (refine wg_take 18 (v := ?_) hR rfl (by kernel_rfl) (by kernel_rfl) ?_ (by with_reducible assumption) ?_; rotate_left; (focus (intro w hSw; (try dsimp only at hSw); go_simp; (try with_reducible rfl))); (dsimp only [putW]))
                (refine wg_step 19 hR rfl (by kernel_rfl) (by kernel_rfl) ?_ (by kernel_rfl); refine wg_skp (w' := ?_) ?_ ?_ ?_; rotate_left; (focus (go_simp; first | done | (with_reducible rfl))); (focus (exact ⟨(World.cell?_setCell_other _ _ _ _ (fun e => hOB (congrArg Addr.block e).symm)).trans hHeld.1, (World.cell?_setCell_other _ _ _ _ (fun e => hbB (congrArg Addr.block e).symm)).trans hHeld.2⟩)); intro hHeld; (dsimp only [putW]))
                refine wg_fin hR hK [(47, 18), (0, 17), (0, 16), (0, 15), (0, 14), (0, 13), (0, 12), (0, 2), (0, 11), (0, 10), (0, 9), (0, 8), (0, 7), (0, 5), (0, 6), (0, 4), (0, 3), (0, 1), (0, 0)] (by kernel_rfl) (by kernel_rfl) (by dsimp only [mg, gsOf, valAt]) ?_; clear hW1 hW2 hW3 hW4 hW5 hR hK hL
                clear r3; clear r7; clear r0; clear r4; clear r6
                go_wp2
                go_roundw
                case rel => exact ⟨k + 1, by omega, by go_num, ⟨_, HV.out, (Hr.out.drew).set hY24 _⟩, hHeld.1, b2.drew.other (p := ⟨B, Y, none⟩) (by show B ≠ _; omega) _, Ext.setCell (Ext.drew HE2.out) (p := ⟨B, Y, none⟩) (by show _ ≤ B; omega) _⟩
                case measure => simp [intOf]; omega
            · go_wp2_with (go_at_call 30; refine (rpick31_c _ _ _ I2.out (by omega) (by omega)).mono ?_; rintro e w' ⟨rfl, rfl⟩)
              go_roundw
              case rel => exact ⟨y + 1, by omega, by go_num, hF⟩
              case measure => simp [intOf]; omega
        · go_wp2_with (go_at_call 30; refine (rpick31_c _ _ _ I3.out (by omega) (by omega)).mono ?_; rintro e w' ⟨rfl, rfl⟩)
          go_roundw
          case rel => exact ⟨i + 1, by omega, by omega, by go_num, hF⟩
          case measure => simp [intOf]; omega
    · obtain ⟨⟨L, hv, hr⟩, cO, ⟨c2, f2⟩, hE⟩ := hF
      have hr3 := hr.other (p := ⟨w.heap.size, 0, none⟩) (by show w.heap.size ≠ B; omega) (.slice (some ⟨B, 0, none⟩) 24 24)
      by_cases hln : i < n
      · have j1 : (i : Int) < (n : Int) := by omega
        have j2 : ¬ (i : Int) < 3 := by omega
        go_wp2_with fail
        exact bodyPost_ret (v := .agg #[.slice (some ⟨B, 0, none⟩) 24 24]) (by simp [results, Tryd.results9, go_sem, c2]) rfl ⟨B, L, rfl, by omega, hv, hr3, by (repeat' (first | (with_reducible assumption) | (with_reducible exact Ext.refl _) | (with_reducible refine Ext.alloc ?_ _) | (with_reducible refine Ext.drew ?_) | (with_reducible refine Ext.drewN ?_ _) | (with_reducible refine Ext.setCell ?_ ?_ _) | (with_reducible refine Ext.trans ?_ (by assumption)) | go_size))⟩
      · have j1 : ¬ (i : Int) < (n : Int) := by omega
        go_wp2_with fail
        exact bodyPost_ret (v := .agg #[.slice (some ⟨B, 0, none⟩) 24 24]) (by simp [results, Tryd.results9, go_sem, c2]) rfl ⟨B, L, rfl, by omega, hv, hr3, by (repeat' (first | (with_reducible assumption) | (with_reducible exact Ext.refl _) | (with_reducible refine Ext.alloc ?_ _) | (with_reducible refine Ext.drew ?_) | (with_reducible refine Ext.drewN ?_ _) | (with_reducible refine Ext.setCell ?_ ?_ _) | (with_reducible refine Ext.trans ?_ (by assumption)) | go_size))⟩

end Go.Proofs.YtajdohcgjgknmaaDoor

/- The reference of chapter 31: Pieces. -/
namespace Go.Proofs.YtajdohcgjgknmaaDoor
open Go.RowKit

theorem OwnL.cap {α : Type} {R : Rep α} {n₀ : Nat} {e : TypeId} {size : Nat} {a : Option Addr} {n c : Nat} {w : World} {l : List α} (h : OwnL R n₀ e size (.slice a n c) w l) (hl : l.length = n) : n ≤ c := by
 obtain ⟨cs, h1, h2, h3, h4⟩ := h
 rcases h3.2 with ⟨q, q2⟩ | ⟨g, cap, cur, q, _, _, hc, _⟩
 · injection q with r1 r2 r3; omega
 · injection q with r1 r2 r3; omega
theorem hasIm_of {l : List Prod.Pc} {im : Int} (h : ∀ q ∈ l, q.im ≠ im) : Prod.hasIm l im = false := by
  cases hh : Prod.hasIm l im
  · rfl
  · unfold Prod.hasIm at hh
    rw [List.any_eq_true] at hh
    obtain ⟨q, hq, e⟩ := hh
    exact absurd (by simpa using e) (h q hq)
theorem goodGo_of : ∀ {l pre : List Prod.Pc}, (∀ p ∈ l, Prod.okP p = true) → Prod.Dist l → (∀ p ∈ l, ∀ q ∈ pre, q.im ≠ p.im) → Prod.goodGo pre l = true
  | [], _, _, _, _ => rfl
  | x :: l, pre, h1, h2, h3 => by
    obtain ⟨d1, d2⟩ := Prod.Dist.cons.1 h2
    rw [Prod.goodGo, h1 x (by simp), hasIm_of (h3 x (by simp)), goodGo_of (fun p hp => h1 p (by simp [hp])) d2 (fun p hp q hq => ?_)]
    · rfl
    · rcases List.mem_append.1 hq with hq | hq
      · exact h3 p (by simp [hp]) q hq
      · rw [List.mem_singleton.1 hq]; exact d1 p hp
theorem goodL_of {l : List Prod.Pc} (h : ∀ p ∈ l, Prod.okP p = true) (hd : Prod.Dist l) : Prod.goodL l = true := goodGo_of h hd (fun _ _ q hq => by cases hq)
theorem eqb_nat (k m : Nat) : (((k : Nat) : Int) == ((m : Nat) : Int)) = decide (k = m) := by
 by_cases h : k = m
 · subst h; simp
 · rw [decide_eq_false h, beq_eq_false_iff_ne]; omega
theorem OwnL.pcs {n₀ e : Nat} {w : World} {a : Option Addr} {n c : Nat} {l : List Prod.Pc} (h : OwnL pieceR n₀ e 4 (.slice a n c) w l) (hl : l.length = n) (hn : n ≤ 140737488355328) : PcsAt w a n l := by
  obtain ⟨rs, r1, r2, r3, r4⟩ := own_raw (S := fun _ => True) (h.into fun _ _ _ _ _ _ => trivial)
  refine ⟨rs, ?_, r3 w (fun _ _ _ hu => hu)⟩
  rcases Nat.eq_zero_or_pos n with h0 | h0
  · subst h0; exact ⟨by omega, by omega, .inl rfl⟩
  · have hq : ∃ g, a = some ⟨g, 0, none⟩ := by
      obtain ⟨cs, q1, q2, q3, q4⟩ := h
      rcases q3.2 with ⟨_, q⟩ | ⟨g, cap, cur, hv, _⟩
      · omega
      · injection hv with e1; exact ⟨g, e1⟩
    obtain ⟨g, rfl⟩ := hq
    have := holds_raws (own_holds r1 (by omega)) (by omega)
    rwa [show rs.length = n by omega] at this
/-- The pieces that integers determine: the images from 10 on. -/
def GoodN (ps : List Prod.Pc) : Prop := ps.length ≤ 8 ∧ ∀ (i : Nat) p, ps[i]? = some p → p.im = 10 + (i : Int) ∧ (0 ≤ p.t ∧ p.t ≤ 300) ∧ Globe.validL p.rw = true
theorem GoodN.nil : GoodN [] := ⟨by simp, fun i p h => by simp at h⟩
theorem GoodN.snoc {ps : List Prod.Pc} {x : Prod.Pc} {i : Nat} (h : GoodN ps) (hl : ps.length = i) (hi : i < 8) (h1 : x.im = 10 + (i : Int)) (h2 : 0 ≤ x.t ∧ x.t ≤ 300) (h3 : Globe.validL x.rw = true) : GoodN (ps ++ [x]) := by
  subst hl
  refine ⟨by rw [List.length_append]; simp; omega, fun j p hp => ?_⟩
  rcases Nat.lt_or_ge j ps.length with hj | hj
  · rw [List.getElem?_append_left hj] at hp; exact h.2 j p hp
  · rw [List.getElem?_append_right hj] at hp
    rcases Nat.lt_or_ge j (ps.length + 1) with hk | hk
    · obtain rfl : j = ps.length := by omega
      rw [Nat.sub_self] at hp; cases hp; exact ⟨h1, h2, h3⟩
    · rw [List.getElem?_eq_none (by simp; omega)] at hp; cases hp
theorem GoodN.good {ps : List Prod.Pc} (h : GoodN ps) : Prod.goodL ps = true := by
  refine goodL_of (fun p hp => ?_) ?_
  · obtain ⟨i, hi⟩ := List.getElem?_of_mem hp
    obtain ⟨q1, q2, q3⟩ := h.2 i p hi
    have := (List.getElem?_eq_some_iff.1 hi).1
    have := h.1
    exact Prod.okP_t.2 ⟨by omega, by omega, q3⟩
  · rw [Prod.Dist, List.pairwise_iff_getElem]
    intro i j hi hj hij he
    have a := (h.2 i _ (List.getElem?_eq_getElem hi)).1
    have b := (h.2 j _ (List.getElem?_eq_getElem hj)).1
    rw [a, b] at he; omega
theorem quo_isI {x k : Int} (h : IsI x) (hk : 0 < k) : IsI (x.tdiv k) := by
 have h2 : (x.tdiv k).natAbs ≤ x.natAbs := by rw [Int.natAbs_tdiv]; exact Nat.div_le_self _ _
 have h3 : 0 ≤ x → 0 ≤ x.tdiv k := fun h => Int.tdiv_nonneg h (by omega)
 have h4 : x ≤ 0 → x.tdiv k ≤ 0 := fun h => by
  have := Int.tdiv_nonneg (a := -x) (b := k) (by omega) (by omega)
  rw [Int.neg_tdiv] at this; omega
 obtain ⟨h0, h1⟩ := h
 generalize x.tdiv k = q at h2 h3 h4 ⊢
 exact ⟨by omega, by omega⟩
def RetPs (w : World) (e : Ending) (w' : World) : Prop :=
 ∃ (a : Option Addr) (k c : Nat) (ps : List Prod.Pc), e = .returned (.slice a k c) ∧ OwnL (freshR w.heap.size pieceR) w.heap.size 41 4 (.slice a k c) w' ps ∧ ps.length = k ∧ k ≤ c ∧ GoodN ps ∧ Ext w w'
set_option maxRecDepth 1000000 in
set_option maxHeartbeats 4000000 in
theorem Pieces_c {w0 : World} {a : Option Addr} {n c : Nat} {q : Nat → Nat → Int} (w : World) (h : QAt w0 a n q) (hE0 : Ext w0 w) (hnc : n ≤ c) (_hc : c ≤ 9223372036854775807) :
  Calls Tryd.prog 10 #[.slice a n c] w (RetPs w) := by
 have Q0 := h.ext hE0
 refine calls_cw 44 [(0, .slice a n c)] Tryd.func10 rfl Tryd.ntmps10 (by kernel_rfl) (by kernel_rfl) (fun L => ?_)
 have hE : Ext w w := Ext.refl w
 refine cw_seq ?_; refine cw_plain ?_; refine pT (.slice none 0 0) ?_; refine pl_nil ?_; refine qw_then ?_; refine cw_seq ?_; refine cw_plain ?_; refine pT (.slice none 0 0) ?_; refine pl_nil ?_; refine qw_then ?_; refine cw_seq ?_; refine cw_seq ?_; refine cw_plain ?_; refine pT (.int .i64 0) ?_; refine pl_nil ?_; refine qw_then ?_
 refine cw_block ?_
 refine cw_loop [0, 3, 4] (fun ws' wr m => ∃ a9 : Option Addr, ∃ i : Nat, ∃ c9 : Nat, ∃ ps : List Prod.Pc, ws' = [(0, .slice a n c), (3, .slice a9 i c9), (4, .int .i64 (((i : Nat) : Int) : Int))] ∧ m = 8 - i ∧ w.heap.size ≤ wr.heap.size ∧ Ext w wr ∧ OwnL (freshR w.heap.size pieceR) w.heap.size 41 4 (.slice a9 i c9) wr ps ∧ ps.length = i ∧ i ≤ c9 ∧ GoodN ps ∧ i ≤ n) (ws0 := [(0, .slice a n c), (3, .slice none 0 0), (4, .int .i64 0)]) (by kernel_rfl) _ ⟨none, 0, 0, [], rfl, rfl, Nat.le_refl _, hE, OwnL.nil _ _ _ _ _, rfl, Nat.le_refl 0, GoodN.nil, by omega⟩ ?_
 clear hE
 rintro m3 L ws w2 ⟨a9, i, c9, ps, rfl, rfl, hs1, hE, own9, hl9, hcp9, hg9, hi⟩
 have hX4 : Ext w2 w2 := Ext.refl _
 have hbk := own9.lt; have hln9 := hg9.1; have hk9 : i < 8 → i < 8 := id
 refine cw_seq ?_; refine cw_seq ?_; refine cw_plain ?_; refine pT (.int .i64 (((i : Nat) : Int) : Int)) ?_; refine pT (.slice a n c) ?_; refine pT (.int .i64 (((n : Nat) : Int) : Int)) ?_
 by_cases hc5 : (((i : Nat) : Int) : Int) < (((n : Nat) : Int) : Int)
 ·
  refine pU (.bool true) (ev_dec (show _ = Result.ok (Next.value (Value.bool (decide ((((i : Nat) : Int) : Int) < (((n : Nat) : Int) : Int))))) _ from by kernel_rfl) (hc5)) ?_
  refine pT (.bool true) ?_; refine pT (.int .i64 (((i : Nat) : Int) : Int)) ?_
  by_cases hc6 : (((i : Nat) : Int) : Int) < (8 : Int)
  ·
   refine pU (.bool true) (ev_dec (show _ = Result.ok (Next.value (Value.bool (decide ((((i : Nat) : Int) : Int) < (8 : Int))))) _ from by kernel_rfl) (hc6)) ?_
   refine pT (.bool true) ?_; refine pl_nil ?_; refine qw_then ?_
   refine cw_t (by kernel_rfl) ?_
   refine cw_skip ?_
   refine qw_then ?_; refine cw_seq ?_
   refine cw_block ?_
   obtain ⟨b, off, rfl, hq⟩ : ∃ b off, a = some ⟨b, off, none⟩ ∧ ∀ i, i < n → ∀ j, j < 4 → w.cell? ⟨b, off + i * 4 + j, none⟩ = some (.int .i64 (q i j)) ∧ IsI (q i j) := Q0.resolve_left (by omega)
   have QA := QAt.sub (i := i) (m := 1) hq (by omega)
   have hq0 : w.cell? ⟨b, off + i * 4, none⟩ = some (.int .i64 (q i 0)) := (hq i (by omega) 0 (by omega)).1
   have hq1 := (hq i (by omega) 1 (by omega)).1
   have hi0 := (hq i (by omega) 0 (by omega)).2; have hi1 := (hq i (by omega) 1 (by omega)).2
   have hbl : b < w.heap.size := World.block_lt_of_cell? w _ hq0
   have jj0 := quo_isI hi0 (k := 7) (by omega); have jj1 := quo_isI hi1 (k := 4) (by omega)
   obtain ⟨hi00, hi01⟩ := id hi0; obtain ⟨hi10, hi11⟩ := id hi1
   clear hq
   refine cw_draw [(some 15, [3], []), (some 16, [4], []), (some 17, [16], [1]), (some 18, [0], []), (some 19, [4], []), (some 20, [18, 19], [3, 4]), (some 21, [20], [5]), (some 22, [21], [6]), (some 23, [22], [7]), (some 24, [23], [8]), (some 25, [24], [9]), (some 26, [0], []), (some 27, [4], []), (some 28, [26, 27], [11, 12]), (some 29, [28], [13]), (some 30, [29], [14]), (some 31, [30], [15]), (some 32, [31], [16, 9]), (some 33, [32], [17]), (some 34, [0], []), (some 35, [4], []), (some 36, [4], []), (some 37, [36], [21]), (some 38, [34, 35, 37], [19, 20, 22]), (some 39, [38], [23, 17]), (some 40, [17, 25, 33, 39], [2, 10, 18, 24]), (some 41, [40], [25]), (some 42, [15, 41], [0, 26, 24]), (some 3, [42], [27, 27, 0, 1, 2, 3, 4, 5, 6, 7, 8, 9, 10, 11, 12, 13, 14, 15, 16, 17, 18, 19, 20, 21, 22, 23, 24, 25, 26, 27])] (fun w' => w'.cell? ⟨b, off + i * 4, none⟩ = some (.int .i64 (q i 0 : Int)) ∧ w'.cell? ⟨b, off + i * 4 + 1, none⟩ = some (.int .i64 (q i 1 : Int))) (by kernel_rfl) (by kernel_rfl) (by kernel_rfl) (by kernel_rfl) ((calm_block (calm_then (calm_then (calm_block (calm_then calm_body)))))) (⟨(hE.cell hq0), (hE.cell hq1)⟩) (fun ops Q X7 hb hL hR hK => ?_)
   replace hE := hE.trans hb; replace hX4 := hX4.trans hb; have hs8 := hb.size; clear hb
   refine wT 0 (.slice a9 i c9) hR (fun w _ => by kernel_rfl) (⟨(hE.cell hq0), (hE.cell hq1)⟩) ?_
   refine wT 1 (.int .i64 (((i : Nat) : Int) : Int)) hR (fun w _ => by kernel_rfl) (⟨(hE.cell hq0), (hE.cell hq1)⟩) ?_
   refine wT 2 (.int .i64 (((10 + i : Nat) : Int) : Int)) hR (fun w _ => ev_wrap (by kernel_rfl) (by omega) (by omega)) (⟨(hE.cell hq0), (hE.cell hq1)⟩) ?_
   refine wT 3 (.slice (some ⟨b, off, none⟩) n c) hR (fun w _ => by kernel_rfl) (⟨(hE.cell hq0), (hE.cell hq1)⟩) ?_
   refine wT 4 (.int .i64 (((i : Nat) : Int) : Int)) hR (fun w _ => by kernel_rfl) (⟨(hE.cell hq0), (hE.cell hq1)⟩) ?_
   refine wT 5 (.pointer (some ⟨b, off + i * 4, none⟩)) hR (fun w _ => ex_index (p := .slice (some ⟨b, off, none⟩) n c) (i := .int .i64 ((i : Nat) : Int)) rfl (by kernel_rfl) (by kernel_rfl) (ix22 (k := i) (by omega))) (⟨(hE.cell hq0), (hE.cell hq1)⟩) ?_
   refine wT 6 (.pointer (some ⟨b, off + i * 4, none⟩)) hR (fun w _ => by kernel_rfl) (⟨(hE.cell hq0), (hE.cell hq1)⟩) ?_
   refine wT 7 (.int .i64 (q i 0 : Int)) hR (fun w hS => ex_load rfl (by kernel_rfl) (ld3 (hS.1))) (⟨(hE.cell hq0), (hE.cell hq1)⟩) ?_
   refine wT 8 (.int .i64 ((q i 0 : Int).tdiv 7 : Int)) hR (fun w _ => ex_bin (a := (q i 0)) (b := 7) rfl (by kernel_rfl) (by kernel_rfl) (bin_tdiv (by omega) (by omega) (by omega))) (⟨(hE.cell hq0), (hE.cell hq1)⟩) ?_
   refine wT 11 (.slice (some ⟨b, off, none⟩) n c) hR (fun w _ => by kernel_rfl) (⟨(hE.cell hq0), (hE.cell hq1)⟩) ?_
   refine wT 12 (.int .i64 (((i : Nat) : Int) : Int)) hR (fun w _ => by kernel_rfl) (⟨(hE.cell hq0), (hE.cell hq1)⟩) ?_
   refine wT 13 (.pointer (some ⟨b, off + i * 4, none⟩)) hR (fun w _ => ex_index (p := .slice (some ⟨b, off, none⟩) n c) (i := .int .i64 ((i : Nat) : Int)) rfl (by kernel_rfl) (by kernel_rfl) (ix22 (k := i) (by omega))) (⟨(hE.cell hq0), (hE.cell hq1)⟩) ?_
   refine wT 14 (.pointer (some ⟨b, off + i * 4 + 1, none⟩)) hR (fun w _ => by kernel_rfl) (⟨(hE.cell hq0), (hE.cell hq1)⟩) ?_
   refine wT 15 (.int .i64 (q i 1 : Int)) hR (fun w hS => ex_load rfl (by kernel_rfl) (ld3 (hS.2))) (⟨(hE.cell hq0), (hE.cell hq1)⟩) ?_
   refine wT 16 (.int .i64 ((q i 1 : Int).tdiv 4 : Int)) hR (fun w _ => ex_bin (a := (q i 1)) (b := 4) rfl (by kernel_rfl) (by kernel_rfl) (bin_tdiv (by omega) (by omega) (by omega))) (⟨(hE.cell hq0), (hE.cell hq1)⟩) ?_
   refine wT 19 (.slice (some ⟨b, off, none⟩) n c) hR (fun w _ => by kernel_rfl) (⟨(hE.cell hq0), (hE.cell hq1)⟩) ?_
   refine wT 20 (.int .i64 (((i : Nat) : Int) : Int)) hR (fun w _ => by kernel_rfl) (⟨(hE.cell hq0), (hE.cell hq1)⟩) ?_
   refine wT 21 (.int .i64 (((i : Nat) : Int) : Int)) hR (fun w _ => by kernel_rfl) (⟨(hE.cell hq0), (hE.cell hq1)⟩) ?_
   refine wT 22 (.int .i64 (((i + 1 : Nat) : Int) : Int)) hR (fun w _ => ev_wrap (by kernel_rfl) (by omega) (by omega)) (⟨(hE.cell hq0), (hE.cell hq1)⟩) ?_
   refine wT 23 (.slice (some ⟨b, off + i * 4, none⟩) 1 (c - i)) hR (fun w _ => ev_val (ex_slice (p := .slice (some ⟨b, off, none⟩) n c) rfl (by kernel_rfl) (by kernel_rfl) (by kernel_rfl) (by kernel_rfl) (sl22_110 (k := i) (m := i + 1) (by omega) (by omega) (by omega))) (by rw [show i + 1 - i = 1 by omega])) (⟨(hE.cell hq0), (hE.cell hq1)⟩) ?_
   refine wS 9 hR (sn_call (f := 30) (args := #[.int .i64 ((q i 0 : Int).tdiv 7 : Int), .int .i64 4]) (by kernel_rfl) ((rpick31N_c _ 4 _ jj0 (by omega) (by omega)).mono ?_))
   rintro e w' ⟨kt, rfl, ktl, ktp, rfl⟩
   refine ⟨_, rfl, ⟨(hE.cell hq0), (hE.cell hq1)⟩, ?_⟩
   refine wT 10 (.int .i64 (((100 * kt : Nat) : Int) : Int)) hR (fun w _ => ev_wrap (by kernel_rfl) (by omega) (by omega)) (⟨(hE.cell hq0), (hE.cell hq1)⟩) ?_
   refine wS 17 hR (sn_call (f := 30) (args := #[.int .i64 ((q i 1 : Int).tdiv 4 : Int), .int .i64 2]) (by kernel_rfl) ((rpick31N_c _ 2 _ jj1 (by omega) (by omega)).mono ?_))
   rintro e w' ⟨kc, rfl, kcl, kcp, rfl⟩
   refine ⟨_, rfl, ⟨(hE.cell hq0), (hE.cell hq1)⟩, ?_⟩
   refine wT 18 (.bool (decide (kc = 1))) hR (fun w _ => ev_val (show _ = Result.ok (Next.value (Value.bool (((kc : Nat) : Int) == 1))) _ from by kernel_rfl) (by rw [← eqb_nat]; rfl)) (⟨(hE.cell hq0), (hE.cell hq1)⟩) ?_
   refine wS 24 hR (sn_call (f := 9) (args := #[.slice (some ⟨b, off + i * 4, none⟩) 1 (c - i)]) (by kernel_rfl) ((Area_c (c - i) _ QA hE (by omega)).mono ?_))
   rintro e w14 ⟨B9, L10, rfl, hn11, hv12, hr13, hb⟩
   replace hE := hE.trans hb; replace hX4 := hX4.trans hb; have hs15 := hb.size; clear hb; have lt16 := hr13.lt
   have hr13a := hr13.va hv12
   have lt17 := hr13a.lt
   refine ⟨_, rfl, ⟨(hE.cell hq0), (hE.cell hq1)⟩, ?_⟩
   refine wT 25 (.agg #[.int .i64 (((10 + i : Nat) : Int) : Int), .int .i64 (((100 * kt : Nat) : Int) : Int), .bool (decide (kc = 1)), .slice (some ⟨B9, 0, none⟩) 24 24]) hR (fun w _ => by kernel_rfl) (⟨(hE.cell hq0), (hE.cell hq1)⟩) ?_
   refine wS 26 hR (sn_newS (us := #[.int .i64 (((10 + i : Nat) : Int) : Int), .int .i64 (((100 * kt : Nat) : Int) : Int), .bool (decide (kc = 1)), .slice (some ⟨B9, 0, none⟩) 24 24]) (t := 41) (k := 1) (c := 1) (by kernel_rfl) ?_)
   intro O18 X19 hzO18 hyO18 hb hbx; have ⟨bO18_0, bO18_1, bO18_2, bO18_3⟩ := bx4 hbx; clear hbx
   replace hE := hE.trans hb; replace hX4 := hX4.trans hb; replace hr13 := hr13.ext hb; replace hr13a := hr13a.ext hb; have hs20 := hb.size; clear hb; have lt21 := bO18_0.lt
   refine ⟨⟨(hE.cell hq0), (hE.cell hq1)⟩, ?_⟩
   obtain ⟨g22, cap23, w24, hrun25, own26, hgr27⟩ := own_app1 (P := Tryd.prog) (ty := 28) pieceT (own9.ext hX4) (T hs1 (T hs8 (T hs15 hs20))) (k := i) hl9 (O := O18) (c := 1) (x := (⟨((10 + i : Nat) : Int), ((100 * kt : Nat) : Int), decide (kc = 1), L10⟩ : Prod.Pc)) (d := [.int .i64 (((10 + i : Nat) : Int) : Int), .int .i64 (((100 * kt : Nat) : Int) : Int), .bool (decide (kc = 1)), .slice (some ⟨B9, 0, none⟩) 24 24]) rfl (cells4 bO18_0.1 bO18_1.1 bO18_2.1 bO18_3.1) (by simp [Value.oneCell']) (⟨⟨_, _, _, rfl, hr13a, rfl⟩, fresh1 (T (T hs1 hs8) hn11)⟩) (away1 hbk (T hs8 hn11)) (by omega) (by omega)
   refine wS 27 hR (sn_eff (v := .slice (some ⟨g22, 0, none⟩) (i + 1) cap23) (w' := w24) (ex_append rfl (by kernel_rfl) (by kernel_rfl) hrun25) ?_)
   replace hE := hgr27.ext _ hE (Nat.le_refl _); have hs28 := hgr27.size
   refine ⟨⟨(hE.cell hq0), (hE.cell hq1)⟩, ?_⟩
   have hl29 := own26.base g22 rfl; have hh30 := own26.lt g22 rfl
   refine wT 28 (.slice (some ⟨g22, 0, none⟩) (i + 1) cap23) hR (fun w _ => by kernel_rfl) (⟨(hE.cell hq0), (hE.cell hq1)⟩) ?_
   refine wd_end hL hR hK (by kernel_rfl) ?_
   refine qw_block ?_
   refine qw_then ?_; refine cC3 0 3 4 (fun L => ?_); refine cw_plain ?_; refine pT (.int .i64 (((i : Nat) : Int) : Int)) ?_
   refine pU (.int .i64 (((i + 1 : Nat) : Int) : Int)) (ev_wrap (by kernel_rfl) (by omega) (by omega)) ?_
   refine pT (.int .i64 (((i + 1 : Nat) : Int) : Int)) ?_; refine pl_nil ?_
   refine qw_round [0, 3, 4] (ws' := [(0, .slice (some ⟨b, off, none⟩) n c), (3, .slice (some ⟨g22, 0, none⟩) (i + 1) cap23), (4, .int .i64 (((i + 1 : Nat) : Int) : Int))]) (by kernel_rfl) _ ?_ ⟨(some ⟨g22, 0, none⟩), (i + 1), cap23, (ps ++ [(⟨((10 + i : Nat) : Int), ((100 * kt : Nat) : Int), decide (kc = 1), L10⟩ : Prod.Pc)]), rfl, rfl, (T hs1 (T hs8 (T hs15 (T hs20 hs28)))), hE, own26, (by rw [List.length_append, hl9]; rfl), (OwnL.cap own26 (by rw [List.length_append, hl9]; rfl)), (hg9.snoc hl9 (by omega) (by dsimp only; omega) (by dsimp only; omega) hv12), by omega⟩
   omega
  ·
   refine pU (.bool false) (ev_ndec (show _ = Result.ok (Next.value (Value.bool (decide ((((i : Nat) : Int) : Int) < (8 : Int))))) _ from by kernel_rfl) (hc6)) ?_
   refine pT (.bool false) ?_; refine pl_nil ?_; refine qw_then ?_
   refine cw_f (by kernel_rfl) ?_
   refine cw_exit ?_
   refine qw_then_exit ?_
   refine qw_then_exit ?_
   refine qw_block_out ?_
   refine qw_then ?_; refine cw_seq ?_; refine cw_plain ?_; refine pT (.slice a9 i c9) ?_; refine pT (.slice a9 i c9) ?_; refine pl_nil ?_; refine qw_then ?_
   refine cw_ret ?_
   refine qw_ret [.slice a9 i c9] rfl ⟨(by kernel_rfl), trivial⟩ ?_
   exact ⟨a9, i, c9, ps, rfl, own9, hl9, hcp9, hg9, hE⟩
 ·
  refine pU (.bool false) (ev_ndec (show _ = Result.ok (Next.value (Value.bool (decide ((((i : Nat) : Int) : Int) < (((n : Nat) : Int) : Int))))) _ from by kernel_rfl) (hc5)) ?_
  refine pT (.bool false) ?_; refine pK ?_; refine pK ?_; refine pT (.bool false) ?_; refine pl_nil ?_; refine qw_then ?_
  refine cw_f (by kernel_rfl) ?_
  refine cw_exit ?_
  refine qw_then_exit ?_
  refine qw_then_exit ?_
  refine qw_block_out ?_
  refine qw_then ?_; refine cw_seq ?_; refine cw_plain ?_; refine pT (.slice a9 i c9) ?_; refine pT (.slice a9 i c9) ?_; refine pl_nil ?_; refine qw_then ?_
  refine cw_ret ?_
  refine qw_ret [.slice a9 i c9] rfl ⟨(by kernel_rfl), trivial⟩ ?_
  exact ⟨a9, i, c9, ps, rfl, own9, hl9, hcp9, hg9, hE⟩

end Go.Proofs.YtajdohcgjgknmaaDoor
