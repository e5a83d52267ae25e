/- Contracts of package cover: Uncovered, Decompose. -/
import Derived.Test.YtglfoglkdbbmmaaDoorCB
import Derived.Test.YtglfoglkdbbmmaaDoorWO
import Derived.Test.YtglfoglkdbbmmaaDoorWG
import Derived.Test.YtglfoglkdbbmmaaDoorRF
namespace Go.Proofs.YtglfoglkdbbmmaaDoor
open Go.RowKit

/-- The pieces as they are gathered: the box O holds a slice v of one's own (at n₀ or beyond), whose elements are areas. -/
def Out (n₀ O : Nat) (v : Value) (w : World) (Ps : List (List Int)) : Prop :=
  BoxAt w O 0 v ∧ ∃ vals, w.ownsRow n₀ 25 1 v Ps.length vals ∧ ∀ (i : Nat) L, Ps[i]? = some L → ∃ B k : Nat, vals[i]? = some (.slice (some ⟨B, 0, none⟩) 24 k) ∧ VA w B 0 L
theorem Out.ext {n₀ O : Nat} {v : Value} {w w' : World} {Ps : List (List Int)} (h : Out n₀ O v w Ps) (hE : Ext w w') : Out n₀ O v w' Ps := by
  obtain ⟨h1, vals, h2, h3⟩ := h
  exact ⟨BoxAt.ext hE h1, vals, own_ext h2 hE, fun i L hL => by obtain ⟨B, k, q1, q2⟩ := h3 i L hL; exact ⟨B, k, q1, q2.ext hE⟩⟩
theorem own_cell0 {w : World} {base : Nat} {e : TypeId} {v : Value} {n : Nat} {xs : List Value} (h : w.ownsRow base e 1 v n xs) {i : Nat} {x : Value} (hx : xs[i]? = some x) (hi : i < n) {b : Nat} (hb : v.ownBlock = some b) : w.cell? ⟨b, i, none⟩ = some x := by
  rcases h.2 with ⟨_, h0⟩ | ⟨g, cap, cur, rfl, _, _, _⟩
  · omega
  · obtain rfl : g = b := by simpa [Value.ownBlock] using hb
    rw [h.cellAt i (by omega)]
    simpa using hx
/-- A block that holds rows is none that holds a slice of slices. -/
theorem own_not_rows {w : World} {base : Nat} {e : TypeId} {v : Value} {n : Nat} {xs : List Value} (h : w.ownsRow base e 1 v n xs) {a : Option Addr} {m k : Nat} (hx : xs[0]? = some (.slice a m k)) (hn : 0 < n) {B : Nat} {L : List Int} (hB : VA w B 0 L) : v.ownBlock ≠ some B := by
  intro hb
  have h1 := own_cell0 h hx hn hb
  have h2 := hB.1 0 (by omega)
  rw [Nat.zero_add] at h2
  rw [h1] at h2; cases h2

def DecPost (n₀ O : Nat) (w : World) (Ps : List (List Int)) (L M : List Int) (e : Ending) (w' : World) : Prop :=
  ∃ (B k : Nat) (v' : Value), e = .returned (.agg #[.slice (some ⟨B, 0, none⟩) 24 k]) ∧ w.heap.size ≤ B ∧ VA w' B 0 (Globe.lessL L M) ∧ Out n₀ O v' w' (Ps ++ [Globe.meetL L M]) ∧ v'.ownBlock ≠ some B ∧
    KeepX n₀ (fun b => b = O) w w' ∧ ∀ W0, Ext W0 w → W0.heap.size ≤ O → Ext W0 w'

set_option maxRecDepth 100000 in
set_option maxHeartbeats 4000000 in
theorem Dec1_v {n₀ O : Nat} {v : Value} {Ps : List (List Int)} {w2 : World} {b o B1 o1 : Nat} (k c1 n2 c2 : Nat) (a2 : Option Addr) {L M : List Int} (w : World) (hO : Out n₀ O v w Ps) (hOn : O < n₀) (hnw : n₀ ≤ w.heap.size) (hps : Ps.length ≤ 24)
    (h : VA w b o L) (hbO : b ≠ O) (hbv : v.ownBlock ≠ some b) (h1 : VA w2 B1 o1 M) (e2 : Ext w2 w) (hB1O : B1 ≠ O) (hB1 : B1 < n₀) :
    Calls Tryd.prog 46 #[.agg #[.slice (some ⟨b, o, none⟩) 24 k], .agg #[.slice (some ⟨B1, o1, none⟩) 24 c1, .slice a2 n2 c2], .pointer (some ⟨O, 0, none⟩)] w (DecPost n₀ O w Ps L M) := by
  have hbl := h.lt
  have H := Lib.hid h
  have H1 := Lib.hid (h1.ext e2)
  have hBl := H1.out.lt
  clear h h1 e2
  obtain ⟨⟨cO, fO⟩, vals, hrow, hpc⟩ := hO
  have Hrow := Lib.hid hrow; clear hrow
  have Hpc := Lib.hid hpc; clear hpc
  have Hbv := Lib.hid hbv; clear hbv
  have lO := World.block_lt_of_cell? w _ cO
  obtain ⟨i0, hi, hz0, hz1, hz2⟩ := info_parts (P := Tryd.prog) (e := 25) (z := .agg #[.slice none 0 0]) (size := 1) (bytes := 24) (by kernel_rfl)
  have Hi := Lib.hid (And.intro hi (And.intro hz0 (And.intro hz1 hz2))); clear hi hz0 hz1 hz2
  have haw := alloc_keeps w
  go_enter Tryd.func46, Tryd.ntmps46
  go_wp2_with (first
    | (go_at_call 28; refine (Meet_v _ _ _ H.out (by (repeat' (first | (with_reducible assumption) | (with_reducible exact Ext.refl _) | (with_reducible refine Ext.alloc ?_ _) | (with_reducible refine Ext.drew ?_) | (with_reducible refine Ext.drewN ?_ _) | (with_reducible refine Ext.setCell ?_ ?_ _) | (with_reducible refine Ext.trans ?_ (by assumption)) | go_size))) H1.out (by (repeat' (first | (with_reducible assumption) | (with_reducible exact Ext.refl _) | (with_reducible refine Ext.alloc ?_ _) | (with_reducible refine Ext.drew ?_) | (with_reducible refine Ext.drewN ?_ _) | (with_reducible refine Ext.setCell ?_ ?_ _) | (with_reducible refine Ext.trans ?_ (by assumption)) | go_size)))).mono ?_; rintro e w1 ⟨Bm, km, rfl, hBm, -, hvm, hb⟩; have hc := hb.cellE; have hf := hb.frozenE; have hz := hb.size; have ha := alloc_keeps w1; (try simp only [World.size_alloc] at hc hf hz); (try simp only [World.size_setCell] at hc hf hz); (try simp only [World.size_drew] at hc hf hz))
    | (at_builtin; go_must (refine wpList_append_own _ rfl _ _ 34 rfl n₀ 25 i0 (.agg #[.slice none 0 0]) 1 24 Tryd.underlying34 Hi.out.1 Hi.out.2.1 Hi.out.2.2.1 Hi.out.2.2.2 rfl (by decide) _ _ _ rfl (own_ext Hrow.out (by (repeat' (first | (with_reducible assumption) | (with_reducible exact Ext.refl _) | (with_reducible refine Ext.alloc ?_ _) | (with_reducible refine Ext.drew ?_) | (with_reducible refine Ext.drewN ?_ _) | (with_reducible refine Ext.setCell ?_ ?_ _) | (with_reducible refine Ext.trans ?_ (by assumption)) | go_size)))) ⟨w1.heap.size + 1, 0, none⟩ 1 1 [.slice (some ⟨Bm, 0, none⟩) 24 km] rfl rfl (cell_1_at _ _ _ (by simp)) (by simp [Value.oneCell']) (by unfold maxLen; omega) (by omega) (by simp; omega) ?_); go_loud (
       intro v' w3 hown' hg3 hnil3
       obtain ⟨g', cap', rfl⟩ := ownsRow_succ hown'
       have hEw : Ext w w1 := by (repeat' (first | (with_reducible assumption) | (with_reducible exact Ext.refl _) | (with_reducible refine Ext.alloc ?_ _) | (with_reducible refine Ext.drew ?_) | (with_reducible refine Ext.drewN ?_ _) | (with_reducible refine Ext.setCell ?_ ?_ _) | (with_reducible refine Ext.trans ?_ (by assumption)) | go_size))
       have bO3 : BoxAt w3 O 0 v := BoxAt.grownR (BoxAt.ext (show Ext w _ by (repeat' (first | (with_reducible assumption) | (with_reducible exact Ext.refl _) | (with_reducible refine Ext.alloc ?_ _) | (with_reducible refine Ext.drew ?_) | (with_reducible refine Ext.drewN ?_ _) | (with_reducible refine Ext.setCell ?_ ?_ _) | (with_reducible refine Ext.trans ?_ (by assumption)) | go_size))) ⟨cO, fO⟩) hg3 (own_ne Hrow.out hOn)
       obtain ⟨cO3, fO3⟩ := bO3
       have b30 : BoxAt w3 w.heap.size 0 (.slice (some ⟨b, o, none⟩) 24 k) := BoxAt.grownR (BoxAt.ext (hb.trans (show Ext w1 _ by (repeat' (first | (with_reducible assumption) | (with_reducible exact Ext.refl _) | (with_reducible refine Ext.alloc ?_ _) | (with_reducible refine Ext.drew ?_) | (with_reducible refine Ext.drewN ?_ _) | (with_reducible refine Ext.setCell ?_ ?_ _) | (with_reducible refine Ext.trans ?_ (by assumption)) | go_size)))) ⟨by simp [go_sem], by simp [go_sem]⟩) hg3 (own_ne2 Hrow.out (by omega))
       have b40 : BoxAt w3 (w.heap.size + 1) 0 (.slice (some ⟨B1, o1, none⟩) 24 c1) := BoxAt.grownR (BoxAt.ext (hb.trans (show Ext w1 _ by (repeat' (first | (with_reducible assumption) | (with_reducible exact Ext.refl _) | (with_reducible refine Ext.alloc ?_ _) | (with_reducible refine Ext.drew ?_) | (with_reducible refine Ext.drewN ?_ _) | (with_reducible refine Ext.setCell ?_ ?_ _) | (with_reducible refine Ext.trans ?_ (by assumption)) | go_size)))) ⟨by simp [go_sem], by simp [go_sem]⟩) hg3 (own_ne2 Hrow.out (by omega))
       have b50 : BoxAt w3 (w.heap.size + 1 + 1) 0 (.slice none 0 0) := BoxAt.grownR (BoxAt.ext (hb.trans (show Ext w1 _ by (repeat' (first | (with_reducible assumption) | (with_reducible exact Ext.refl _) | (with_reducible refine Ext.alloc ?_ _) | (with_reducible refine Ext.drew ?_) | (with_reducible refine Ext.drewN ?_ _) | (with_reducible refine Ext.setCell ?_ ?_ _) | (with_reducible refine Ext.trans ?_ (by assumption)) | go_size)))) ⟨by simp [go_sem], by simp [go_sem]⟩) hg3 (own_ne2 Hrow.out (by omega))
       obtain ⟨c30, f30⟩ := b30
       obtain ⟨c40, f40⟩ := b40
       obtain ⟨c50, f50⟩ := b50
       have H3 := Lib.hid (VA.grownR (H.out.ext (show Ext w _ by (repeat' (first | (with_reducible assumption) | (with_reducible exact Ext.refl _) | (with_reducible refine Ext.alloc ?_ _) | (with_reducible refine Ext.drew ?_) | (with_reducible refine Ext.drewN ?_ _) | (with_reducible refine Ext.setCell ?_ ?_ _) | (with_reducible refine Ext.trans ?_ (by assumption)) | go_size)))) hg3 Hbv.out)
       have H13 := Lib.hid (VA.grownR (H1.out.ext (show Ext w _ by (repeat' (first | (with_reducible assumption) | (with_reducible exact Ext.refl _) | (with_reducible refine Ext.alloc ?_ _) | (with_reducible refine Ext.drew ?_) | (with_reducible refine Ext.drewN ?_ _) | (with_reducible refine Ext.setCell ?_ ?_ _) | (with_reducible refine Ext.trans ?_ (by assumption)) | go_size)))) hg3 (own_ne Hrow.out hB1))
       have hBm2 : w.heap.size ≤ Bm := by (try simp at hBm); omega
       have Hm3 := Lib.hid (VA.grownR (hvm.ext (show Ext w1 _ by (repeat' (first | (with_reducible assumption) | (with_reducible exact Ext.refl _) | (with_reducible refine Ext.alloc ?_ _) | (with_reducible refine Ext.drew ?_) | (with_reducible refine Ext.drewN ?_ _) | (with_reducible refine Ext.setCell ?_ ?_ _) | (with_reducible refine Ext.trans ?_ (by assumption)) | go_size)))) hg3 (own_ne2 Hrow.out hBm2))
       have Hp3 := Lib.hid (show ∀ (i : Nat) L, Ps[i]? = some L → ∃ B k : Nat, vals[i]? = some (.slice (some ⟨B, 0, none⟩) 24 k) ∧ VA w3 B 0 L from fun i L hL => by
         obtain ⟨B, k, q1, q2⟩ := Hpc.out i L hL
         have hpos : 0 < Ps.length := by
           rcases Nat.lt_or_ge i Ps.length with h | h
           · omega
           · rw [List.getElem?_eq_none h] at hL; cases hL
         obtain ⟨B0, k0, q3, -⟩ := Hpc.out 0 _ (List.getElem?_eq_getElem hpos)
         exact ⟨B, k, q1, VA.grownR (q2.ext (show Ext w _ by (repeat' (first | (with_reducible assumption) | (with_reducible exact Ext.refl _) | (with_reducible refine Ext.alloc ?_ _) | (with_reducible refine Ext.drew ?_) | (with_reducible refine Ext.drewN ?_ _) | (with_reducible refine Ext.setCell ?_ ?_ _) | (with_reducible refine Ext.trans ?_ (by assumption)) | go_size)))) hg3 (own_not_rows Hrow.out q3 hpos q2)⟩)
       have Kx := Lib.hid (show KeepX n₀ (fun b => b = O) w w3 from (KeepX.of_ext (show Ext w _ by (repeat' (first | (with_reducible assumption) | (with_reducible exact Ext.refl _) | (with_reducible refine Ext.alloc ?_ _) | (with_reducible refine Ext.drew ?_) | (with_reducible refine Ext.drewN ?_ _) | (with_reducible refine Ext.setCell ?_ ?_ _) | (with_reducible refine Ext.trans ?_ (by assumption)) | go_size))) hnw).trans ⟨hg3.size, fun k hk _ => hg3.block k (Nat.lt_of_lt_of_le hk (Nat.le_trans hnw (Ext.size (show Ext w _ by (repeat' (first | (with_reducible assumption) | (with_reducible exact Ext.refl _) | (with_reducible refine Ext.alloc ?_ _) | (with_reducible refine Ext.drew ?_) | (with_reducible refine Ext.drewN ?_ _) | (with_reducible refine Ext.setCell ?_ ?_ _) | (with_reducible refine Ext.trans ?_ (by assumption)) | go_size)))))) (fun e => own_ne Hrow.out hk e.symm)⟩)
       have Kw := Lib.hid (show ∀ W0, Ext W0 w → W0.heap.size ≤ O → Ext W0 w3 from fun W0 h0 h1 => Ext.own' (h0.trans (show Ext w _ by (repeat' (first | (with_reducible assumption) | (with_reducible exact Ext.refl _) | (with_reducible refine Ext.alloc ?_ _) | (with_reducible refine Ext.drew ?_) | (with_reducible refine Ext.drewN ?_ _) | (with_reducible refine Ext.setCell ?_ ?_ _) | (with_reducible refine Ext.trans ?_ (by assumption)) | go_size)))) (own_ext Hrow.out (show Ext w _ by (repeat' (first | (with_reducible assumption) | (with_reducible exact Ext.refl _) | (with_reducible refine Ext.alloc ?_ _) | (with_reducible refine Ext.drew ?_) | (with_reducible refine Ext.drewN ?_ _) | (with_reducible refine Ext.setCell ?_ ?_ _) | (with_reducible refine Ext.trans ?_ (by assumption)) | go_size)))) (by omega) hg3)
       have hz3 : w1.heap.size + 1 + 1 ≤ w3.heap.size := by have := hg3.size; (try simp at this); omega
       have hs1 := hb.size
       (try simp at hs1)
       have Ho' := Lib.hid hown'
       clear hg3 hown' hnil3 hc hf hz ha hb hvm hBm hEw
       have ha3 := alloc_keeps w3
       go_frame))
    | (go_at_call 42; refine (less_v _ _ _ (VA.other H3.out (p := ⟨O, 0, none⟩) (by show O ≠ b; omega) _) (Ext.refl _) (VA.other H13.out (p := ⟨O, 0, none⟩) (by show O ≠ B1; omega) _) (Ext.refl _)).mono ?_; rintro e w4 ⟨B, kk, rfl, hB, hv4, hb4⟩; have hc4 := hb4.cellE; have hf4 := hb4.frozenE; have hz4 := hb4.size; have ha4 := alloc_keeps w4; (try simp only [World.size_alloc] at hc4 hf4 hz4); (try simp only [World.size_setCell] at hc4 hf4 hz4); (try simp only [World.size_drew] at hc4 hf4 hz4)))
  have hB2 : w3.heap.size ≤ B := by (try simp at hB); omega
  have Hv4 := Lib.hid hv4; clear hv4
  have hg5 : g' ≠ w.heap.size + 1 + 1 := by
    intro he
    have hv0 : (vals ++ [Value.slice (some ⟨Bm, 0, none⟩) 24 km])[0]? ≠ some (.slice none 0 0) := by
      rcases Nat.eq_zero_or_pos Ps.length with h | h
      · have : vals = [] := by
          have := Hrow.out.1
          rw [h] at this
          exact List.eq_nil_of_length_eq_zero (by simpa using this)
        rw [this]; simp
      · obtain ⟨B0, k0, q3, -⟩ := Hpc.out 0 _ (List.getElem?_eq_getElem h)
        rw [List.getElem?_append_left (List.getElem?_eq_some_iff.1 q3).1, q3]; simp
    have h0 := Ho'.out.cellAt 0 (by omega)
    rw [he, c50] at h0
    exact hv0 h0.symm
  refine bodyPost_ret (v := .agg #[.slice (some ⟨B, 0, none⟩) 24 kk]) (by simp [results, Tryd.results46, go_sem, hc4, ha4, c50]) rfl ⟨B, kk, _, rfl, by omega, VA.other Hv4.out (by show w.heap.size + 1 + 1 ≠ B; omega) _, ⟨BoxAt.other (BoxAt.ext hb4 (BoxAt.set ⟨cO3, fO3⟩ _)) (by show w.heap.size + 1 + 1 ≠ O; omega) _, vals ++ [.slice (some ⟨Bm, 0, none⟩) 24 km], ?_, ?_⟩, own_ne2 Ho'.out hB2, ?_, ?_⟩
  · rw [List.length_append]
    refine own_set (own_ext (own_set Ho'.out (p := ⟨O, 0, none⟩) (own_ne Ho'.out hOn) _) hb4) (p := ⟨w.heap.size + 1 + 1, 0, none⟩) ?_ _
    intro h; simp [Value.ownBlock] at h; exact hg5 h
  · intro i L' hL'
    have hls : vals.length = Ps.length := by have := Hrow.out.1; simpa using this
    have hOB : ∀ {B : Nat} {X : List Int}, VA w3 B 0 X → O ≠ B := fun hX e => by
      have h1 := hX.1 0 (by omega)
      rw [← e, Nat.zero_add, cO3] at h1
      rcases Hrow.out.2 with ⟨q, _⟩ | ⟨_, _, _, q, _⟩ <;> (rw [q] at h1; cases h1)
    have hsB : ∀ {B : Nat} {X : List Int}, VA w3 B 0 X → w.heap.size + 1 + 1 ≠ B := fun hX e => by
      have h1 := hX.1 0 (by omega)
      rw [← e, Nat.zero_add, c50] at h1
      cases h1
    rcases Nat.lt_or_ge i Ps.length with h | h
    · rw [List.getElem?_append_left h] at hL'
      obtain ⟨B', k', q1, q2⟩ := Hp3.out i L' hL'
      exact ⟨B', k', by rw [List.getElem?_append_left (by omega)]; exact q1, VA.other ((VA.other q2 (p := ⟨O, 0, none⟩) (hOB q2) _).ext hb4) (p := ⟨w.heap.size + 1 + 1, 0, none⟩) (hsB q2) _⟩
    · have hi : i = Ps.length := by
        have := (List.getElem?_eq_some_iff.1 hL').1
        rw [List.length_append] at this
        simp at this; omega
      subst hi
      rw [List.getElem?_append_right (Nat.le_refl _), Nat.sub_self] at hL'
      cases hL'
      exact ⟨Bm, km, by rw [List.getElem?_append_right (by omega), hls, Nat.sub_self]; rfl, VA.other ((VA.other Hm3.out (p := ⟨O, 0, none⟩) (hOB Hm3.out) _).ext hb4) (p := ⟨w.heap.size + 1 + 1, 0, none⟩) (hsB Hm3.out) _⟩
  · exact ((Kx.out.trans (KeepX.setCell (X := fun b => b = O) _ (p := ⟨O, 0, none⟩) (by rfl) _)).trans (KeepX.of_ext hb4 (by rw [World.size_setCell]; omega))).trans (KeepX.of_below (Below.setCell (Below.refl _ _) (p := ⟨w.heap.size + 1 + 1, 0, none⟩) (by show n₀ ≤ w.heap.size + 1 + 1; omega) _))
  · intro W0 h0 h1
    have h2 := h0.size
    exact Ext.setCell ((Ext.setCell (Kw.out W0 h0 h1) (p := ⟨O, 0, none⟩) h1 _).trans hb4) (p := ⟨w.heap.size + 1 + 1, 0, none⟩) (by show _ ≤ w.heap.size + 1 + 1; omega) _

theorem BoxAt.keepX {n₀ : Nat} {X : Nat → Prop} {A B : World} {b o : Nat} {v : Value} (hk : KeepX n₀ X A B) (hb : b < n₀) (hx : ¬ X b) (h : BoxAt A b o v) : BoxAt B b o v :=
  ⟨(hk.cell hb hx).trans h.1, (World.frozen?_of_block (hk.block b hb hx)).trans h.2⟩
theorem Out.set {n₀ O : Nat} {v : Value} {w : World} {Ps : List (List Int)} (h : Out n₀ O v w Ps) {b : Nat} (hbO : b ≠ O) (hbn : b < n₀) {a : Option Addr} {m k : Nat} (hc : w.cell? ⟨b, 0, none⟩ = some (.slice a m k)) (u : Value) : Out n₀ O v (w.setCell ⟨b, 0, none⟩ u) Ps := by
  obtain ⟨h1, vals, h2, h3⟩ := h
  refine ⟨BoxAt.other h1 (p := ⟨b, 0, none⟩) hbO _, vals, own_set h2 (p := ⟨b, 0, none⟩) (own_ne h2 hbn) _, fun i L hL => ?_⟩
  obtain ⟨B, k', q1, q2⟩ := h3 i L hL
  refine ⟨B, k', q1, VA.other q2 (p := ⟨b, 0, none⟩) (fun e => ?_) _⟩
  have := q2.1 0 (by omega)
  rw [Nat.zero_add, ← show b = B from e, hc] at this
  cases this

def FoldDPost (W0 w : World) (b O : Nat) (l : List Int) (Ss : List (List Int)) (e : Ending) (w' : World) : Prop :=
  ∃ (B o' k' n₀ : Nat) (v : Value), e = .returned (.agg #[.slice (some ⟨B, o', none⟩) 24 k']) ∧ VA w' B o' (Globe.leftL l Ss) ∧ Out n₀ O v w' (Globe.piecesL l Ss) ∧ B ≠ O ∧ W0.heap.size ≤ n₀ ∧ (B = b ∨ w.heap.size ≤ B) ∧ Ext W0 w'
set_option maxHeartbeats 4000000 in
theorem foldD_v {W0 : World} {a : Option Addr} {n : Nat} {ss : List (List Int × List Int)} {b o O : Nat} (c k : Nat) {l : List Int} (w : World) (h : StripsAt W0 a n ss) (hok : Globe.stripsOk ss = true) (e1 : Ext W0 w) (hO : W0.heap.size ≤ O) (bO : BoxAt w O 0 (.slice none 0 0)) (hl : VA w b o l) (hbO : b ≠ O) :
    Calls Tryd.prog 39 #[.slice a n c, .agg #[.slice (some ⟨b, o, none⟩) 24 k], .func (.func 46) #[] #[.pointer (some ⟨O, 0, none⟩)]] w (FoldDPost W0 w b O l (ss.map fun s => s.1)) := by
  have lO := bO.lt
  have hbl := hl.lt
  have H := Lib.hid h
  have HL := Lib.hid hl
  have hn := h.2.1
  have hn1 := h.1
  have h24 : n ≤ 24 := by rw [← hn1]; exact (Globe.stripsOk_t.1 hok).1
  have Hok := Lib.hid hok
  have HO := Lib.hid bO
  clear h hl hok bO
  have Hn1 := Lib.hid hn1; clear hn1
  have hs0 := e1.size
  have He := Lib.hid e1; clear e1
  go_enter Tryd.func39, Tryd.ntmps39
  go_wp2_with fail
  go_loopw [11] (fun p wr => ∃ i : Nat, i ≤ n ∧ p = .int .i64 i ∧ Ext W0 wr ∧ BoxAt wr (w.heap.size + 1) 0 (.slice none 0 0) ∧ ∃ B o' k' v, BoxAt wr w.heap.size 0 (.slice (some ⟨B, o', none⟩) 24 k') ∧ Hid (VA wr B o' (Globe.leftL l ((ss.map fun s => s.1).take i))) ∧ B ≠ w.heap.size ∧ B ≠ w.heap.size + 1 ∧ B ≠ O ∧ (B = b ∨ w.heap.size ≤ B) ∧ Hid (v.ownBlock ≠ some B) ∧ Hid (Out (w.heap.size + 1 + 1) O v wr (Globe.piecesL l ((ss.map fun s => s.1).take i)))) (fun p _ => n - (intOf p).toNat)
  case atStart =>
    refine ⟨0, by omega, rfl, He.out.trans (by (repeat' (first | (with_reducible assumption) | (with_reducible exact Ext.refl _) | (with_reducible refine Ext.alloc ?_ _) | (with_reducible refine Ext.drew ?_) | (with_reducible refine Ext.drewN ?_ _) | (with_reducible refine Ext.setCell ?_ ?_ _) | (with_reducible refine Ext.trans ?_ (by assumption)) | go_size))), ⟨by simp [go_sem], by simp [go_sem]⟩, b, o, k, .slice none 0 0, ⟨by simp [go_sem], by simp [go_sem]⟩, HL.out.ext (by (repeat' (first | (with_reducible assumption) | (with_reducible exact Ext.refl _) | (with_reducible refine Ext.alloc ?_ _) | (with_reducible refine Ext.drew ?_) | (with_reducible refine Ext.drewN ?_ _) | (with_reducible refine Ext.setCell ?_ ?_ _) | (with_reducible refine Ext.trans ?_ (by assumption)) | go_size))), by omega, by omega, hbO, .inl rfl, (by intro h; cases h), ?_⟩
    refine ⟨BoxAt.ext (by (repeat' (first | (with_reducible assumption) | (with_reducible exact Ext.refl _) | (with_reducible refine Ext.alloc ?_ _) | (with_reducible refine Ext.drew ?_) | (with_reducible refine Ext.drewN ?_ _) | (with_reducible refine Ext.setCell ?_ ?_ _) | (with_reducible refine Ext.trans ?_ (by assumption)) | go_size))) HO.out, [], World.ownsRow_nil _ _ _ _, fun i L hL => ?_⟩
    simp [Globe.piecesL] at hL
  case round =>
    obtain ⟨i, hi, rfl, hE, hR, B, o', k', v, hA, hv, hB1, hB2, hB3, hB4, hvB, hOut⟩ := hrel
    obtain ⟨cA, fA⟩ := hA
    obtain ⟨cR, fR⟩ := hR
    have lA := World.block_lt_of_cell? wr _ cA
    have lR := World.block_lt_of_cell? wr _ cR
    by_cases hlt : i < n
    · obtain ⟨b3, off, s, rfl, hs, hst⟩ := H.out.at hlt
      obtain ⟨q1, q2, q3⟩ := okS_at Hok.out hs
      obtain ⟨B1, o1, c1, B2, o2, c2, d1, d2, g1, g2⟩ := hst.v q1 q2
      have lg1 := g1.lt
      replace d1 := hE.cell d1; replace d2 := hE.cell d2
      have ld1 := World.block_lt_of_cell? wr _ d1
      have i0 : (0 : Int) ≤ (i : Int) := by omega
      have i1 : (i : Int) < (n : Int) := by omega
      have hsn : Globe.leftL l ((ss.map fun s => s.1).take (i + 1)) = Globe.lessL (Globe.leftL l ((ss.map fun s => s.1).take i)) s.1 := by
        rw [take_snoc' (x := s.1) (by rw [List.getElem?_map, hs]; rfl), Globe.left_snoc]
      have hpn : Globe.piecesL l ((ss.map fun s => s.1).take (i + 1)) = Globe.piecesL l ((ss.map fun s => s.1).take i) ++ [Globe.meetL (Globe.leftL l ((ss.map fun s => s.1).take i)) s.1] := by
        rw [take_snoc' (x := s.1) (by rw [List.getElem?_map, hs]; rfl), Globe.pieces_snoc]
      have hpl : (Globe.piecesL l ((ss.map fun s => s.1).take i)).length ≤ 24 := by
        rw [Globe.pieces_len, List.length_take]; omega
      have Hsn := Lib.hid hsn; clear hsn
      have Hpn := Lib.hid hpn; clear hpn hs hst q1 q2 q3
      have HG1 := Lib.hid g1; clear g1 g2
      go_wp2_with (go_at_call 46; refine (Dec1_v _ _ _ _ _ _ (hOut.out.ext (Ext.alloc (Ext.refl _) _)) (by omega) (by simp; omega) hpl (hv.out.ext (Ext.alloc (Ext.refl _) _)) hB3 hvB.out (HG1.out.ext hE) (Ext.alloc (Ext.refl _) _) (by omega) (by omega)).mono ?_; rintro e w1 ⟨B', k3, v', rfl, hB', hv', hO', hvB', hkx, hW⟩; have cA1 := BoxAt.keepX hkx (b := w.heap.size) (o := 0) (by omega) (by omega) (BoxAt.ext (Ext.alloc (Ext.refl _) _) ⟨cA, fA⟩); have cR1 := BoxAt.keepX hkx (b := w.heap.size + 1) (o := 0) (by omega) (by omega) (BoxAt.ext (Ext.alloc (Ext.refl _) _) ⟨cR, fR⟩); obtain ⟨cA1, fA1⟩ := cA1; obtain ⟨cR1, fR1⟩ := cR1; have hE1 := hW W0 (Ext.alloc hE _) hO; have HV := Lib.hid hv'; have HO2 := Lib.hid hO'; have HvB2 := Lib.hid hvB'; clear hv' hO' hvB' hkx hW)
      have hB'' : wr.heap.size + 1 ≤ B' := by (try simp at hB'); omega
      go_roundw
      case rel =>
        refine ⟨i + 1, by omega, by go_num, Ext.setCell hE1 (p := ⟨w.heap.size, 0, none⟩) (by show _ ≤ w.heap.size; omega) _, BoxAt.other ⟨cR1, fR1⟩ (by show w.heap.size ≠ w.heap.size + 1; omega) _, B', 0, k3, v', BoxAt.set ⟨cA1, fA1⟩ _, ?_, by omega, by omega, by omega, .inr (by omega), HvB2, ?_⟩
        · rw [Hsn.out]; exact VA.other HV.out (p := ⟨w.heap.size, 0, none⟩) (by show w.heap.size ≠ B'; omega) _
        · rw [Hpn.out]; exact Out.set HO2.out (by omega) (by omega) cA1 _
      case measure => simp [intOf]; omega
    · obtain rfl : i = n := by omega
      go_wp2_with fail
      have hfull : (ss.map fun s => s.1).take i = ss.map fun s => s.1 := List.take_of_length_le (by rw [List.length_map, Hn1.out]; exact Nat.le_refl _)
      rw [hfull] at hv hOut
      refine bodyPost_ret (v := .agg #[.slice (some ⟨B, o', none⟩) 24 k']) (by simp [results, Tryd.results39, go_sem, cA, cR]) rfl ⟨B, o', k', _, v, rfl, VA.other hv.out (by show w.heap.size + 1 ≠ B; omega) _, Out.set hOut.out (by omega) (by omega) cR _, hB3, by omega, hB4, Ext.setCell hE (p := ⟨w.heap.size + 1, 0, none⟩) (by show _ ≤ w.heap.size + 1; omega) _⟩

end Go.Proofs.YtglfoglkdbbmmaaDoor
